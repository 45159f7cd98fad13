/-
  Plans as arguments of the exact laws: their size, copies of them, copies compared, marks in them.
-/
import Derived.Test.YtlpjienaennmaaaP1
import Derived.Test.YtlpjienaennmaaaLL
import Derived.Test.YtlpjienaennmaaaA7
namespace Go.Proofs.Ytlpjienaennmaaa
open Go
set_option maxRecDepth 20000
set_option maxHeartbeats 1000000

/-- the cells of a plan -/
structure PE where
  o : Int
  a : Int
  p : Int
  t : Bool
  x : Option Addr
  n : Nat
  c : Nat
abbrev encP (u : PE) : List Value := [vI u.o, vI u.a, vI u.p, .bool u.t, .slice u.x u.n u.c]
abbrev encE (u : PE × Plan) : List Value := encP u.1
/-- a plan that came in; its lists may be too long -/
inductive PlF (h : Hp) : PE → Prop
  | mk {u : PE} (es : List PE) : I64 u.o → I64 u.a → I64 u.p → u.n ≤ 9223372036854775807 → (u.n ≤ 1048576 → RdL encP 5 h (.slice u.x u.n u.c) es ∧ u.n = es.length) → (∀ e ∈ es, PlF h e) → PlF h u
mutual
/-- the parts below -/
def nds : Plan → Int
  | .mk _ _ _ _ k => ndss k
def ndss : List Plan → Int
  | [] => 0
  | q :: r => 1 + nds q + ndss r
end
mutual
theorem nds_nonneg : ∀ q : Plan, 0 ≤ nds q
  | .mk _ _ _ _ k => by simp only [nds]; exact ndss_nonneg k
theorem ndss_nonneg : ∀ l : List Plan, 0 ≤ ndss l
  | [] => by simp [ndss]
  | q :: r => by have := nds_nonneg q; have := ndss_nonneg r; simp only [ndss]; omega
end
theorem ndss_append : ∀ (a b : List Plan), ndss (a ++ b) = ndss a + ndss b
  | [], b => by simp [ndss]
  | q :: r, b => by simp only [List.cons_append, ndss, ndss_append r b]; omega
theorem ndss_len : ∀ l : List Plan, l.length ≤ ndss l
  | [] => by simp [ndss]
  | q :: r => by have := ndss_len r; have := nds_nonneg q; simp only [ndss, List.length_cons]; omega
theorem RdPlans.snoc {h : Hp} : ∀ {css : List (List Value)} {ps : List Plan} {cs : List Value} {p : Plan}, RdPlans h css ps → RdPlan h cs p → RdPlans h (css ++ [cs]) (ps ++ [p])
  | _, _, _, _, .nil, r => .cons r .nil
  | _, _, _, _, .cons a b, r => .cons a (RdPlans.snoc b r)
theorem RdPlans.pick {h : Hp} {α : Type} {en : α → List Value} {es : List α} {kids : List Plan} (hk : RdPlans h (es.map en) kids) {k : Nat} {u : α} (hu : es[k]? = some u) : ∃ q, kids[k]? = some q ∧ RdPlan h (en u) q ∧ q ∈ kids := by
  have hl := hk.length
  rw [List.length_map] at hl
  have hlt := ltC hu
  obtain ⟨c, h1, h2⟩ := hk.get k (by omega)
  rw [List.getElem?_map, hu] at h1
  cases h1
  exact ⟨kids[k], List.getElem?_eq_getElem _, h2, List.getElem_mem _⟩
/-- a plan's list of parts as a list of cells -/
theorem RdPlan.kidsL {h : Hp} {u : PE} {q : Plan} (r : RdPlan h (encP u) q) : ∃ es : List PE, ∃ kids, q = .mk u.o u.a u.p u.t kids ∧ RdL encP 5 h (.slice u.x u.n u.c) es ∧ RdPlans h (es.map encP) kids ∧ u.n = es.length ∧ I64 u.o ∧ I64 u.a ∧ I64 u.p := by
  obtain ⟨o, a, p, t, kids, v, css, e1, e2, ho, ha, hp, hr, hk⟩ := r.inv
  simp only [List.cons.injEq, Value.int.injEq, Value.bool.injEq, true_and, and_true] at e2
  obtain ⟨rfl, rfl, rfl, rfl, rfl⟩ := e2
  have key : ∀ {css : List (List Value)} {ps : List Plan}, RdPlans h css ps → ∃ es : List PE, css = es.map encP := by
    intro css
    induction css with
    | nil => intro _ _; exact ⟨[], rfl⟩
    | cons cs r ih =>
      intro ps hps
      cases hps with
      | cons a b =>
        obtain ⟨es, rfl⟩ := ih b
        obtain ⟨o, a', p, t, kids, v, css, _, rfl, _, _, _, ⟨⟨x, c, rfl, _⟩, _⟩, _⟩ := a.inv
        exact ⟨⟨o, a', p, t, x, _, c⟩ :: es, rfl⟩
  obtain ⟨es, rfl⟩ := key hk
  obtain ⟨⟨x, c, e, _⟩, _⟩ := id hr
  injection e with _ e2 _
  rw [List.length_map] at e2
  exact ⟨es, kids, e1, hr, hk, e2, ho, ha, hp⟩
def SzR (h : Hp) (u : PE) (left : Int) (v : Value) (gs : List HProp) : Prop := ∃ r : Int, v = vI r ∧ gs = [] ∧ (r = -1 ∨ (0 ≤ r ∧ r ≤ left ∧ ∃ q, RdPlan h (encP u) q ∧ nds q = left - r))
theorem szPlanS_of {h : Hp} {A : Amb} (hA : h.Le A.h) {x : Option Addr} {n c : Nat} {es : List PE} (hn : n ≤ 9223372036854775807) (hr : n ≤ 1048576 → RdL encP 5 h (.slice x n c) es ∧ n = es.length)
    (ih : ∀ e ∈ es, ∀ (B : Amb) (left : Int), h.Le B.h → 0 ≤ left → left ≤ 1048576 → Ctr Try.prog 38 #[.agg (encP e).toArray, vI left] B [] (SzR h e left)) {left : Int} (h0 : 0 ≤ left) (h1 : left ≤ 1048576) :
    Ctr Try.prog 76 #[.slice x n c, vI left] A [] (fun v gs => ∃ r : Int, v = vI r ∧ gs = [] ∧ (r = -1 ∨ (0 ≤ r ∧ r ≤ left ∧ ∃ qs, n = es.length ∧ RdL encP 5 h (.slice x n c) es ∧ RdPlans h (es.map encP) qs ∧ ndss qs = left - r))) := by
  refine Ctr.body (args := [_, _]) Try.func76 rfl Try.ntmps76 Try.results76 (by simp) ?_
  refine CJ.seq ?_
  refine CJ.region ?_
  refine LJ.yd rfl (Yd.asI rfl) ?_
  refine LJ.nil ?_
  refine CJ.seq ?_
  refine CJ.region ?_
  refine LJ.yd rfl (Yd.mvI rfl) ?_
  refine LJ.yd rfl (Yd.mvS rfl) ?_
  refine LJ.yd rfl (Yd.len rfl) ?_
  refine LJ.yd rfl (Yd.sub rfl rfl (by unfold I64; omega)) ?_
  refine LJ.yd rfl (Yd.asI rfl) ?_
  refine LJ.nil ?_
  refine CJ.seq ?_
  refine CJ.seq ?_
  refine CJ.region ?_
  refine LJ.yd rfl (Yd.mvI rfl) ?_
  refine LJ.splitD rfl (Yd.lss rfl rfl) (fun h11 => ?_) (fun h11 => ?_)
  · refine LJ.nil ?_
    refine CJ.condT rfl ?_
    refine CJ.seq ?_
    refine CJ.region ?_
    refine LJ.yd rfl (Yd.asI rfl) ?_
    refine LJ.nil ?_
    refine CJ.ret ?_
    first
      | exact Fin.R [] (Res.one (ResV.tmp (v := .int _ _) rfl)) ⟨_, rfl, rfl, .inl rfl⟩ (Ent.refl _)
      | (refine Fin.R [] (Res.one (ResV.tmp (v := .int _ _) rfl)) ⟨_, rfl, rfl, .inr ⟨hy0, by omega, qs, rfl, hl0, ?_, ?_⟩⟩ (Ent.refl _)
         · rwa [List.take_of_length_le (by omega)] at hqs
         · rw [hnd]; omega)
  · refine LJ.nil ?_
    refine CJ.condF rfl ?_
    refine CJ.skip ?_
    refine CJ.seq ?_
    refine CJ.seq ?_
    obtain ⟨hl0, rfl⟩ := hr (by omega)
    have hl := RdRow.mono hl0 hA
    refine CJ.region ?_
    refine LJ.yd rfl (Yd.asI rfl) ?_
    refine LJ.nil ?_
    refine CJ.block ?_
    refine CJ.loopK [0] (Nat × Int × List Plan) (fun ⟨k, y, qs⟩ => k ≤ es.length ∧ 0 ≤ y ∧ y ≤ left - es.length ∧ RdPlans h ((es.take k).map encP) qs ∧ ndss qs = left - es.length - y + k) (fun ⟨k, y, qs⟩ => [(5, vI k), (1, vI y)]) (fun ⟨k, y, qs⟩ => es.length - k) (0, left - es.length, []) ?_ ⟨rfl, rfl, trivial⟩ ?_
    · exact ⟨by omega, by omega, by omega, .nil, by simp [ndss]⟩
    · rintro ⟨k, y, qs⟩ σ ⟨hk1, hy0, hy1, hqs, hnd⟩
      refine CJ.seq ?_
      refine CJ.seq ?_
      refine CJ.region ?_
      refine LJ.yd rfl (Yd.mvI rfl) ?_
      refine LJ.yd rfl (Yd.mvS rfl) ?_
      refine LJ.yd rfl (Yd.len rfl) ?_
      refine LJ.splitD rfl (Yd.lss rfl rfl) (fun h15 => ?_) (fun h15 => ?_)
      · refine LJ.nil ?_
        refine CJ.condT rfl ?_
        refine CJ.skip ?_
        refine CJ.seq ?_
        refine CJ.block ?_
        refine CJ.seq ?_
        refine CJ.region ?_
        refine LJ.yd rfl (Yd.mvS rfl) ?_
        refine LJ.yd rfl (Yd.mvI rfl) ?_
        refine LJ.idxA rfl hl rfl rfl (by omega) (by first | rfl | omega | (simp; done) | (simp; omega) | (simp [upN_len]; omega) | (simp [idxBy_len]; omega) | (simp [marks_len]; omega) | (simp [upN_len]; done) | (simp [idxBy_len]; done) | (simp [marks_len]; done) | (simp at *; omega)) (fun ib20 io20 ia20 ir20 => ?_)
        refine LJ.lgA (enc := encP) (fun u => [vI u.o, vI u.a, vI u.p, .bool u.t, .slice u.x u.n u.c]) (fun _ => rfl) (fun _ => rfl) ir20 rfl rfl rfl (by first | rfl | omega | (simp; done) | (simp; omega) | (simp [upN_len]; omega) | (simp [idxBy_len]; omega) | (simp [marks_len]; omega) | (simp [upN_len]; done) | (simp [idxBy_len]; done) | (simp [marks_len]; done) | (simp at *; omega)) (fun u21 hu21 => ?_)
        try simp only [Int.toNat_natCast] at hu21
        refine LJ.yd rfl (Yd.mvI rfl) ?_
        refine LJ.call0 rfl (fun k hk dk => ih u21 (List.mem_of_getElem? hu21) _ _ (hA.trans up) (by omega) (by omega)) ?_
        rintro _ _ ⟨r23, rfl, rfl, hr23⟩
        refine LJ.yd rfl (Yd.asI rfl) ?_
        refine LJ.nil ?_
        refine CJ.seq ?_
        refine CJ.region ?_
        refine LJ.yd rfl (Yd.mvI rfl) ?_
        refine LJ.splitD rfl (Yd.lss rfl rfl) (fun h25 => ?_) (fun h25 => ?_)
        · refine LJ.nil ?_
          refine CJ.condT rfl ?_
          refine CJ.seq ?_
          refine CJ.region ?_
          refine LJ.yd rfl (Yd.asI rfl) ?_
          refine LJ.nil ?_
          refine CJ.ret ?_
          first
            | exact Fin.R [] (Res.one (ResV.tmp (v := .int _ _) rfl)) ⟨_, rfl, rfl, .inl rfl⟩ (Ent.refl _)
            | (refine Fin.R [] (Res.one (ResV.tmp (v := .int _ _) rfl)) ⟨_, rfl, rfl, .inr ⟨hy0, by omega, qs, rfl, hl0, ?_, ?_⟩⟩ (Ent.refl _)
               · rwa [List.take_of_length_le (by omega)] at hqs
               · rw [hnd]; omega)
        · refine LJ.nil ?_
          refine CJ.condF rfl ?_
          refine CJ.skip ?_
          refine CJ.region ?_
          refine LJ.yd rfl (Yd.mvI rfl) ?_
          refine LJ.yd rfl (Yd.add rfl rfl (by unfold I64; omega)) ?_
          refine LJ.yd rfl (Yd.asI rfl) ?_
          refine LJ.nil ?_
          obtain ⟨_, _, q23, hq23, hqn⟩ := hr23.resolve_left (by omega)
          refine ⟨(k + 1, _, qs ++ [q23]), ?_, ⟨rfl, trivial⟩, ⟨rfl, rfl, trivial⟩, Ent.refl _, ?_⟩
          · refine ⟨by omega, ?_⟩
            exact ⟨by omega, by omega, by rw [takeC hu21, List.map_append]; exact hqs.snoc hq23, by rw [ndss_append, ndss, ndss, hnd, hqn]; omega⟩
          · first | omega | (dsimp only; omega) | (simp only []; omega)
      · refine LJ.nil ?_
        refine CJ.condF rfl ?_
        refine CJ.exit ?_
        refine CJ.seq ?_
        refine CJ.region ?_
        refine LJ.yd rfl (Yd.mvI rfl) ?_
        refine LJ.yd rfl (Yd.asI rfl) ?_
        refine LJ.nil ?_
        refine CJ.ret ?_
        first
          | exact Fin.R [] (Res.one (ResV.tmp (v := .int _ _) rfl)) ⟨_, rfl, rfl, .inl rfl⟩ (Ent.refl _)
          | (refine Fin.R [] (Res.one (ResV.tmp (v := .int _ _) rfl)) ⟨_, rfl, rfl, .inr ⟨hy0, by omega, qs, rfl, hl0, ?_, ?_⟩⟩ (Ent.refl _)
             · rwa [List.take_of_length_le (by omega)] at hqs
             · rw [hnd]; omega)
theorem szPlan_ok {h : Hp} {u : PE} (r : PlF h u) : ∀ (B : Amb) (left : Int), h.Le B.h → 0 ≤ left → left ≤ 1048576 → Ctr Try.prog 38 #[.agg (encP u).toArray, vI left] B [] (SzR h u left) := by
  induction r with
  | @mk u es ho ha hp hn hr _ ih =>
    intro B left hB h0 h1
    refine Ctr.body (args := [_, _]) Try.func38 rfl Try.ntmps38 Try.results38 (by simp) ?_
    refine CJ.seq ?_
    refine CJ.region ?_
    refine LJ.boxG (vs := [_, _, _, _, _]) rfl rfl (fun b1 => ?_)
    refine LJ.yd rfl (Yd.asI rfl) ?_
    refine LJ.nil ?_
    refine CJ.seq ?_
    refine CJ.region ?_
    refine LJ.yd rfl (Yd.fieldAddr rfl) ?_
    refine LJ.yd rfl (Yd.loadC 0 rfl rfl rfl) ?_
    refine LJ.yd rfl (Yd.mvI rfl) ?_
    refine LJ.call0 rfl (fun k hk dk => szPlanS_of (hB.trans up) hn hr ih h0 h1) ?_
    rintro _ _ ⟨r8, rfl, rfl, hr8⟩
    refine LJ.yd rfl (Yd.asI rfl) ?_
    refine LJ.nil ?_
    refine CJ.seq ?_
    refine CJ.seq ?_
    refine CJ.region ?_
    refine LJ.yd rfl (Yd.mvI rfl) ?_
    refine LJ.splitD rfl (Yd.lss rfl rfl) (fun h10 => ?_) (fun h10 => ?_)
    · refine LJ.nil ?_
      refine CJ.condT rfl ?_
      refine CJ.seq ?_
      refine CJ.region ?_
      refine LJ.yd rfl (Yd.asI rfl) ?_
      refine LJ.nil ?_
      refine CJ.ret ?_
      first
        | exact Fin.R [] (Res.one (ResV.tmp (v := .int _ _) rfl)) ⟨_, rfl, rfl, .inl rfl⟩ (Ent.pick [] [0] rfl)
        | (obtain ⟨h2, h3, qs, h4, h5, h6, h7⟩ := hr8.resolve_left (by omega)
           refine Fin.R [] (Res.one (ResV.tmp (v := .int _ _) rfl)) ⟨r8, rfl, rfl, .inr ⟨h2, h3, .mk u.o u.a u.p u.t qs, ?_, ?_⟩⟩ (Ent.pick [] [0] rfl)
           · exact .mk ho ha hp h5 h6
           · rw [nds, h7])
    · refine LJ.nil ?_
      refine CJ.condF rfl ?_
      refine CJ.skip ?_
      refine CJ.seq ?_
      refine CJ.region ?_
      refine LJ.yd rfl (Yd.mvI rfl) ?_
      refine LJ.yd rfl (Yd.asI rfl) ?_
      refine LJ.nil ?_
      refine CJ.ret ?_
      first
        | exact Fin.R [] (Res.one (ResV.tmp (v := .int _ _) rfl)) ⟨_, rfl, rfl, .inl rfl⟩ (Ent.pick [] [0] rfl)
        | (obtain ⟨h2, h3, qs, h4, h5, h6, h7⟩ := hr8.resolve_left (by omega)
           refine Fin.R [] (Res.one (ResV.tmp (v := .int _ _) rfl)) ⟨r8, rfl, rfl, .inr ⟨h2, h3, .mk u.o u.a u.p u.t qs, ?_, ?_⟩⟩ (Ent.pick [] [0] rfl)
           · exact .mk ho ha hp h5 h6
           · rw [nds, h7])
/-! ## copies -/
mutual
/-- a plan with memory of its own -/
inductive PlO : Hp → PE → Plan → Prop
  | mk {h h1 h2 : Hp} {u : PE} {ps : List (PE × Plan)} : I64 u.o → I64 u.a → I64 u.p → u.n = ps.length → ps.length ≤ 281474976710656 → LR encE 28 5 u.x u.c ps h1 → POs h2 ps → h1.Dj h2 → h1.Le h → h2.Le h →
      PlO h u (.mk u.o u.a u.p u.t (ps.map Prod.snd))
inductive POs : Hp → List (PE × Plan) → Prop
  | nil {h : Hp} : POs h []
  | cons {h h1 h2 : Hp} {u : PE × Plan} {r : List (PE × Plan)} : PlO h1 u.1 u.2 → POs h2 r → h1.Dj h2 → h1.Le h → h2.Le h → POs h (u :: r)
end
abbrev plf (u : PE × Plan) : HProp := fun h => PlO h u.1 u.2
theorem PlO.mono {h k : Hp} {u : PE} {q : Plan} (l : h.Le k) (r : PlO h u q) : PlO k u q := by
  cases r with
  | mk a b c d e f g i j m => exact .mk a b c d e f g i (j.trans l) (m.trans l)
theorem POs.of {ps : List (PE × Plan)} : ∀ {h : Hp}, INN plf ps h → POs h ps := by
  induction ps with
  | nil => intro h _; exact .nil
  | cons u r ih =>
    rintro h ⟨h1, h2, a, b, c, d, e⟩
    exact .cons a (ih b) c d e
theorem POs.inn : ∀ {ps : List (PE × Plan)} {h : Hp}, POs h ps → INN plf ps h
  | _, _, .nil => trivial
  | _, _, .cons a b c d e => ⟨_, _, a, POs.inn b, c, d, e⟩
mutual
theorem PlO.rd : ∀ {h : Hp} {u : PE} {q : Plan}, PlO h u q → RdPlan h (encP u) q
  | _, _, _, .mk (ps := ps) ho ha hp hn hb hr hs _ l1 l2 => by
    have h1 := (Row.rd hr (by rw [List.length_map]; exact hb)).mono l1
    rw [List.length_map, ← hn] at h1
    exact .mk ho ha hp h1 (RdPlans.mono l2 (POs.rd hs))
theorem POs.rd : ∀ {h : Hp} {ps : List (PE × Plan)}, POs h ps → RdPlans h (ps.map encE) (ps.map Prod.snd)
  | _, _, .nil => .nil
  | _, _, .cons a b _ l1 l2 => .cons (RdPlan.mono l1 (PlO.rd a)) (RdPlans.mono l2 (POs.rd b))
end
theorem PlO.fold {x : Option Addr} {c : Nat} {o a p : Int} {t : Bool} {ps : List (PE × Plan)} (ho : I64 o) (ha : I64 a) (hp : I64 p) (hb : ps.length ≤ 281474976710656) : ∀ m : Hp, Sts [LR encE 28 5 x c ps, INN plf ps] m → PlO m ⟨o, a, p, t, x, ps.length, c⟩ (.mk o a p t (ps.map Prod.snd)) := by
  rintro m ⟨h1, h2, r, ⟨h3, _, s, _, _, l3, _⟩, d, l1, l2⟩
  exact .mk (u := ⟨o, a, p, t, x, ps.length, c⟩) ho ha hp rfl hb r (POs.of s) (d.mono (Hp.Le.refl _) l3) l1 (l3.trans l2)
theorem PlO.unfold {u : PE} {q : Plan} : ∀ m : Hp, Sts [fun h => PlO h u q] m → ∃ ps : List (PE × Plan), q = .mk u.o u.a u.p u.t (ps.map Prod.snd) ∧ u.n = ps.length ∧ ps.length ≤ 281474976710656 ∧ Sts [LR encE 28 5 u.x u.c ps, INN plf ps] m := by
  rintro m ⟨h1, _, r, _, _, l1, _⟩
  cases r with
  | @mk _ k1 k2 u ps ho ha hp hn hb hr hs d j1 j2 =>
    exact ⟨ps, rfl, hn, hb, k1, k2, hr, ⟨k2, fun _ => none, hs.inn, trivial, fun _ => .inr rfl, Hp.Le.refl _, Hp.none_le _⟩, d, j1.trans l1, j2.trans l1⟩
theorem set_rep {α : Type} {l : List α} {n k : Nat} {u z : α} (h : l.length = k) (hk : k < n) : (l ++ List.replicate (n - k) z).set k u = (l ++ [u]) ++ List.replicate (n - (k + 1)) z := by
  obtain ⟨m, rfl⟩ : ∃ m, n = k + 1 + m := ⟨n - k - 1, by omega⟩
  rw [show k + 1 + m - k = m + 1 by omega, show k + 1 + m - (k + 1) = m by omega, List.set_append_right _ _ (by omega), h, Nat.sub_self, List.replicate_succ, List.set_cons_zero]
  simp
def CpR (q : Plan) (v : Value) (gs : List HProp) : Prop := ∃ u : PE, v = .agg (encP u).toArray ∧ gs = [fun h => PlO h u q]
theorem toPlanS_of {A : Amb} {x : Option Addr} {n c : Nat} {es : List PE} {kids : List Plan} (hl : RdL encP 5 A.h (.slice x n c) es) (hk : RdPlans A.h (es.map encP) kids) (hn : n = es.length) (hb : es.length ≤ 2000000)
    (ih : ∀ q ∈ kids, ∀ (e : PE) (B : Amb), RdPlan B.h (encP e) q → Ctr Try.prog 41 #[.agg (encP e).toArray] B [] (CpR q)) :
    Ctr Try.prog 78 #[.slice x n c] A [] (fun v gs => ∃ x' c', ∃ ps : List (PE × Plan), v = .slice x' ps.length c' ∧ gs = [LR encE 28 5 x' c' ps, INN plf ps] ∧ ps.map Prod.snd = kids ∧ ps.length = es.length) := by
  subst hn
  have hkl := hk.length
  rw [List.length_map] at hkl
  refine Ctr.body (args := [_]) Try.func78 rfl Try.ntmps78 Try.results78 (by simp) ?_
  refine CJ.seq ?_
  refine CJ.region ?_
  refine LJ.yd rfl (Yd.asS rfl) ?_
  refine LJ.nil ?_
  refine CJ.seq ?_
  refine CJ.region ?_
  refine LJ.yd rfl (Yd.mvS rfl) ?_
  refine LJ.yd rfl (Yd.len rfl) ?_
  refine LJ.op rfl (OpR.mk (enc := encE) ((⟨0, 0, 0, false, none, 0, 0⟩, .mk 0 0 0 false []) : PE × Plan) (m := es.length) rfl rfl rfl (by first | rfl | omega | (simp; done) | (simp; omega) | (simp [upN_len]; omega) | (simp [idxBy_len]; omega) | (simp [marks_len]; omega) | (simp [upN_len]; done) | (simp [idxBy_len]; done) | (simp [marks_len]; done) | (simp at *; omega))) ?_
  rintro _ _ ⟨g7, rfl, rfl⟩
  refine LJ.norm [_] rfl ?_
  refine LJ.yd rfl (Yd.asS rfl) ?_
  refine LJ.nil ?_
  refine CJ.seq ?_
  refine CJ.seq ?_
  refine CJ.ent (INN.ent plf) ?_
  refine CJ.norm [_, _] rfl ?_
  refine CJ.region ?_
  refine LJ.yd rfl (Yd.asI rfl) ?_
  refine LJ.nil ?_
  refine CJ.block ?_
  refine CJ.loopF [0, 2, 3] (Nat × List (PE × Plan)) (fun ⟨k, ps⟩ => k ≤ es.length ∧ ps.length = k ∧ ps.map Prod.snd = kids.take k) (fun ⟨k, ps⟩ => [(4, vI k)]) (fun ⟨k, ps⟩ => [LR encE 28 5 (some ⟨g7, 0, none⟩) es.length (ps ++ List.replicate (es.length - k) (⟨0, 0, 0, false, none, 0, 0⟩, .mk 0 0 0 false [])), INN plf ps]) (fun ⟨k, ps⟩ => es.length - k) (0, []) [] [] [0, 1] rfl rfl rfl ?_ ⟨rfl, trivial⟩ ?_
  · exact ⟨by omega, rfl, rfl⟩
  · rintro ⟨k, ps⟩ σ ⟨hk1, hpl, hpm⟩
    refine CJ.norm [_, _] rfl ?_
    refine CJ.seq ?_
    refine CJ.seq ?_
    refine CJ.region ?_
    refine LJ.yd rfl (Yd.mvI rfl) ?_
    refine LJ.yd rfl (Yd.mvS rfl) ?_
    refine LJ.yd rfl (Yd.len rfl) ?_
    refine LJ.splitD rfl (Yd.lss rfl rfl) (fun h11 => ?_) (fun h11 => ?_)
    · refine LJ.nil ?_
      refine CJ.condT rfl ?_
      refine CJ.skip ?_
      refine CJ.seq ?_
      refine CJ.block ?_
      refine CJ.region ?_
      refine LJ.yd rfl (Yd.mvS rfl) ?_
      refine LJ.yd rfl (Yd.mvI rfl) ?_
      refine LJ.yd rfl (Yd.mvS rfl) ?_
      refine LJ.yd rfl (Yd.mvI rfl) ?_
      refine LJ.idxA rfl hl rfl rfl (by omega) (by first | rfl | omega | (simp; done) | (simp; omega) | (simp [upN_len]; omega) | (simp [idxBy_len]; omega) | (simp [marks_len]; omega) | (simp [upN_len]; done) | (simp [idxBy_len]; done) | (simp [marks_len]; done) | (simp at *; omega)) (fun ib18 io18 ia18 ir18 => ?_)
      refine LJ.lgA (enc := encP) (fun u => [vI u.o, vI u.a, vI u.p, .bool u.t, .slice u.x u.n u.c]) (fun _ => rfl) (fun _ => rfl) ir18 rfl rfl rfl (by first | rfl | omega | (simp; done) | (simp; omega) | (simp [upN_len]; omega) | (simp [idxBy_len]; omega) | (simp [marks_len]; omega) | (simp [upN_len]; done) | (simp [idxBy_len]; done) | (simp [marks_len]; done) | (simp at *; omega)) (fun u19 hu19 => ?_)
      try simp only [Int.toNat_natCast] at hu19
      obtain ⟨q, hq, hqr, hqm⟩ := hk.pick hu19
      refine LJ.call0 rfl (fun k hk dk => ih q hqm _ _ hqr.up) ?_
      rintro _ _ ⟨w, rfl, rfl⟩
      refine LJ.norm [_, _, _] rfl ?_
      refine LJ.idxR 0 rfl rfl rfl rfl (by omega) (by first | rfl | omega | (simp; done) | (simp; omega) | (simp [upN_len]; omega) | (simp [idxBy_len]; omega) | (simp [marks_len]; omega) | (simp [upN_len]; done) | (simp [idxBy_len]; done) | (simp [marks_len]; done) | (simp at *; omega)) (by first | rfl | omega | (simp; done) | (simp; omega) | (simp [upN_len]; omega) | (simp [idxBy_len]; omega) | (simp [marks_len]; omega) | (simp [upN_len]; done) | (simp [idxBy_len]; done) | (simp [marks_len]; done) | (simp at *; omega)) (fun ib21 ia21 => ?_)
      refine LJ.op rfl (OpR.stG (enc := encE) (u' := (w, q)) 0 rfl ia21 rfl rfl rfl (fun _ => rfl) rfl rfl (by first | rfl | omega | (simp; done) | (simp; omega) | (simp [upN_len]; omega) | (simp [idxBy_len]; omega) | (simp [marks_len]; omega) | (simp [upN_len]; done) | (simp [idxBy_len]; done) | (simp [marks_len]; done) | (simp at *; omega))) ?_
      rintro _ _ ⟨rfl, rfl⟩
      refine LJ.norm [_, _, _] rfl ?_
      refine LJ.nil ?_
      rw [show (ps ++ List.replicate (es.length - k) ((⟨0, 0, 0, false, none, 0, 0⟩, .mk 0 0 0 false []) : PE × Plan)).set (k : Int).toNat (w, q) = (ps ++ [(w, q)]) ++ List.replicate (es.length - (k + 1)) (⟨0, 0, 0, false, none, 0, 0⟩, .mk 0 0 0 false []) from set_rep hpl (by omega)]
      refine CJ.ent (Ent.pickFold [0] [1, 2] [] rfl (fun _ s => INN.snoc (f := plf) (u := (w, q)) s)) ?_
      refine CJ.norm [_, _] rfl ?_
      refine CJ.region ?_
      refine LJ.yd rfl (Yd.mvI rfl) ?_
      refine LJ.yd rfl (Yd.add rfl rfl (by unfold I64; omega)) ?_
      refine LJ.yd rfl (Yd.asI rfl) ?_
      refine LJ.nil ?_
      refine ⟨(k + 1, _), ?_, ⟨rfl, rfl, rfl, trivial⟩, ⟨rfl, trivial⟩, Ent.refl _, ?_⟩
      · refine ⟨by omega, ?_⟩
        exact ⟨by simp [hpl], by rw [List.map_append, hpm, takeC hq]; rfl⟩
      · first | omega | (dsimp only; omega) | (simp only []; omega)
    · refine LJ.nil ?_
      refine CJ.condF rfl ?_
      refine CJ.exit ?_
      refine CJ.seq ?_
      refine CJ.region ?_
      refine LJ.yd rfl (Yd.mvS rfl) ?_
      refine LJ.yd rfl (Yd.asS rfl) ?_
      refine LJ.nil ?_
      refine CJ.ret ?_
      obtain rfl : k = es.length := by omega
      rw [Nat.sub_self, List.replicate_zero, List.append_nil]
      rw [← hpl]
      exact Fin.R [_, _] (Res.one (ResV.tmp (v := .slice _ _ _) rfl)) ⟨_, _, ps, rfl, rfl, by rw [hpm, List.take_of_length_le (by omega)], rfl⟩ (Ent.pick [0, 1] [] rfl)
theorem toPlan_ok' (N : Nat) : ∀ (q : Plan), SizeOf.sizeOf q < N → nds q ≤ 1048576 → ∀ (u : PE) (B : Amb), RdPlan B.h (encP u) q → Ctr Try.prog 41 #[.agg (encP u).toArray] B [] (CpR q) := by
  induction N with
  | zero => intro q h; omega
  | succ N ih =>
  intro q hN hnd u B hq
  obtain ⟨es, kids, rfl, hl, hkk, hn, ho, ha, hp⟩ := hq.kidsL
  have hkl := hkk.length
  rw [List.length_map] at hkl
  have hnl := ndss_len kids
  simp only [nds] at hnd
  have hmem : ∀ q ∈ kids, SizeOf.sizeOf q < N ∧ nds q ≤ 1048576 := fun q hm => by
    have h1 := List.sizeOf_lt_of_mem hm
    simp only [Plan.mk.sizeOf_spec] at hN
    refine ⟨by omega, ?_⟩
    obtain ⟨l1, l2, rfl⟩ := List.append_of_mem hm
    rw [ndss_append, ndss] at hnd
    have := ndss_nonneg l1
    have := ndss_nonneg l2
    omega
  refine Ctr.body (args := [_]) Try.func41 rfl Try.ntmps41 Try.results41 (by simp) ?_
  refine CJ.seq ?_
  refine CJ.region ?_
  refine LJ.boxG (vs := [_, _, _, _, _]) rfl rfl (fun b1 => ?_)
  refine LJ.alloc ([_, _, _, _, _] : List Value) rfl rfl (fun b2 => ?_)
  refine LJ.nil ?_
  refine CJ.seq ?_
  refine CJ.region ?_
  refine LJ.alloc ([_, _, _, _, _] : List Value) rfl rfl (fun b3 => ?_)
  refine LJ.nil ?_
  refine CJ.seq ?_
  refine CJ.region ?_
  refine LJ.yd rfl (Yd.fieldAddr rfl) ?_
  refine LJ.yd rfl (Yd.loadC 0 rfl rfl rfl) ?_
  refine LJ.yd rfl (Yd.fieldAddr rfl) ?_
  refine LJ.store (v := .int _ _) (us := [_, _, _, _, _]) 2 rfl rfl rfl rfl rfl rfl rfl rfl ?_
  refine LJ.nil ?_
  refine CJ.seq ?_
  refine CJ.region ?_
  refine LJ.yd rfl (Yd.fieldAddr rfl) ?_
  refine LJ.yd rfl (Yd.loadC 0 rfl rfl rfl) ?_
  refine LJ.yd rfl (Yd.fieldAddr rfl) ?_
  refine LJ.store (v := .int _ _) (us := [_, _, _, _, _]) 2 rfl rfl rfl rfl rfl rfl rfl rfl ?_
  refine LJ.nil ?_
  refine CJ.seq ?_
  refine CJ.region ?_
  refine LJ.yd rfl (Yd.fieldAddr rfl) ?_
  refine LJ.yd rfl (Yd.loadC 0 rfl rfl rfl) ?_
  refine LJ.yd rfl (Yd.fieldAddr rfl) ?_
  refine LJ.store (v := .int _ _) (us := [_, _, _, _, _]) 2 rfl rfl rfl rfl rfl rfl rfl rfl ?_
  refine LJ.nil ?_
  refine CJ.seq ?_
  refine CJ.region ?_
  refine LJ.yd rfl (Yd.fieldAddr rfl) ?_
  refine LJ.yd rfl (Yd.loadC 0 rfl rfl rfl) ?_
  refine LJ.yd rfl (Yd.fieldAddr rfl) ?_
  refine LJ.store (v := .bool _) (us := [_, _, _, _, _]) 2 rfl rfl rfl rfl rfl rfl rfl rfl ?_
  refine LJ.nil ?_
  refine CJ.seq ?_
  refine CJ.region ?_
  refine LJ.yd rfl (Yd.fieldAddr rfl) ?_
  refine LJ.yd rfl (Yd.loadC 0 rfl rfl rfl) ?_
  refine LJ.call0 rfl (fun k hk dk => toPlanS_of hl.up (hkk.mono up) hn (by omega) (fun q hm e C hr => ih q (hmem q hm).1 (hmem q hm).2 e C hr)) ?_
  rintro _ _ ⟨x1, c1, ps, rfl, rfl, hps, hpl⟩
  refine LJ.norm [_, _, _, _, _] rfl ?_
  refine LJ.yd rfl (Yd.fieldAddr rfl) ?_
  refine LJ.store (v := .slice _ _ _) (us := [_, _, _, _, _]) 2 rfl rfl rfl rfl rfl rfl rfl rfl ?_
  refine LJ.nil ?_
  refine CJ.seq ?_
  refine CJ.region ?_
  refine LJ.yd rfl (Yd.loadG (us := [_, _, _, _, _]) 2 rfl rfl rfl rfl) ?_
  refine LJ.store (v := .agg #[_, _, _, _, _]) (us := [_, _, _, _, _]) 1 rfl rfl rfl rfl rfl rfl rfl rfl ?_
  refine LJ.nil ?_
  refine CJ.ret ?_
  subst hps
  exact Fin.R [_] (Res.one (ResV.cell (us := [_, _, _, _, _]) 1 rfl rfl rfl rfl)) ⟨⟨_, _, _, _, _, _, _⟩, rfl, rfl⟩ (Ent.pickFold [] [3, 4] [0, 1, 2] rfl (PlO.fold ho ha hp (by omega)))
theorem toPlan_ok {A : Amb} {u : PE} {q : Plan} (h : RdPlan A.h (encP u) q) (hn : nds q ≤ 1048576) : Ctr Try.prog 41 #[.agg (encP u).toArray] A [] (CpR q) := toPlan_ok' _ q (Nat.lt_succ_self _) hn u A h
/-! ## copies compared -/
theorem eqPlanS_of {A : Amb} {x x2 : Option Addr} {n n2 c c2 : Nat} {es es2 : List PE} {kids : List Plan} (hl : RdL encP 5 A.h (.slice x n c) es) (hl2 : RdL encP 5 A.h (.slice x2 n2 c2) es2) (hk : RdPlans A.h (es.map encP) kids) (hk2 : RdPlans A.h (es2.map encP) kids) (hn : n = es.length) (hn2 : n2 = es2.length)
    (ih : ∀ q ∈ kids, ∀ (e e2 : PE) (B : Amb), RdPlan B.h (encP e) q → RdPlan B.h (encP e2) q → Ctr Try.prog 34 #[.agg (encP e).toArray, .agg (encP e2).toArray] B [] (Val (.bool true))) :
    Ctr Try.prog 72 #[.slice x n c, .slice x2 n2 c2] A [] (Val (.bool true)) := by
  subst hn hn2
  have hkl := hk.length
  have hkl2 := hk2.length
  rw [List.length_map] at hkl hkl2
  have hll := hl.len
  refine Ctr.body (args := [_, _]) Try.func72 rfl Try.ntmps72 Try.results72 (by simp) ?_
  refine CJ.seq ?_
  refine CJ.region ?_
  refine LJ.yd rfl (Yd.asB rfl) ?_
  refine LJ.nil ?_
  refine CJ.seq ?_
  refine CJ.seq ?_
  refine CJ.region ?_
  refine LJ.yd rfl (Yd.mvS rfl) ?_
  refine LJ.yd rfl (Yd.len rfl) ?_
  refine LJ.yd rfl (Yd.mvS rfl) ?_
  refine LJ.yd rfl (Yd.len rfl) ?_
  refine LJ.splitN rfl (Yd.neq rfl rfl) (fun h10 => ?_) (fun h10 => ?_)
  · exfalso; omega
  · refine LJ.nil ?_
    refine CJ.condF rfl ?_
    refine CJ.skip ?_
    refine CJ.seq ?_
    refine CJ.seq ?_
    refine CJ.region ?_
    refine LJ.yd rfl (Yd.asI rfl) ?_
    refine LJ.nil ?_
    refine CJ.block ?_
    refine CJ.loopK [0, 1] Nat (fun k => k ≤ es.length) (fun k => [(5, vI k)]) (fun k => es.length - k) (0) ?_ ⟨rfl, trivial⟩ ?_
    · exact by omega
    · rintro k σ hk1
      refine CJ.seq ?_
      refine CJ.seq ?_
      refine CJ.region ?_
      refine LJ.yd rfl (Yd.mvI rfl) ?_
      refine LJ.yd rfl (Yd.mvS rfl) ?_
      refine LJ.yd rfl (Yd.len rfl) ?_
      refine LJ.splitD rfl (Yd.lss rfl rfl) (fun h14 => ?_) (fun h14 => ?_)
      · refine LJ.nil ?_
        refine CJ.condT rfl ?_
        refine CJ.skip ?_
        refine CJ.seq ?_
        refine CJ.block ?_
        refine CJ.seq ?_
        refine CJ.regionD [] [] (by kernel_rfl) rfl ?_
        refine DJ.norm [] [] rfl rfl ?_
        refine DJ.yd 0 rfl (by kernel_rfl) (by kernel_rfl) (by kernel_rfl) rfl rfl (Yd.mvS rfl) ?_
        refine DJ.yd 1 rfl (by kernel_rfl) (by kernel_rfl) (by kernel_rfl) rfl rfl (Yd.mvI rfl) ?_
        refine DJ.idxA 2 rfl (by kernel_rfl) (by kernel_rfl) (by kernel_rfl) rfl rfl hl rfl rfl (by omega) (by first | rfl | omega | (simp; done) | (simp; omega) | (simp [upN_len]; omega) | (simp [idxBy_len]; omega) | (simp [marks_len]; omega) | (simp [upN_len]; done) | (simp [idxBy_len]; done) | (simp [marks_len]; done) | (simp at *; omega)) (fun ib19 io19 ia19 ir19 => ?_)
        refine DJ.lgA 3 rfl (by kernel_rfl) (by kernel_rfl) (by kernel_rfl) rfl rfl (enc := encP) (fun u => [vI u.o, vI u.a, vI u.p, .bool u.t, .slice u.x u.n u.c]) (fun _ => rfl) (fun _ => rfl) ir19 rfl rfl (by first | rfl | omega | (simp; done) | (simp; omega) | (simp [upN_len]; omega) | (simp [idxBy_len]; omega) | (simp [marks_len]; omega) | (simp [upN_len]; done) | (simp [idxBy_len]; done) | (simp [marks_len]; done) | (simp at *; omega)) (fun u20 hu20 => ?_)
        try simp only [Int.toNat_natCast] at hu20
        obtain ⟨q1, hq1, hqr1, hqm1⟩ := hk.pick hu20
        refine DJ.yd 4 rfl (by kernel_rfl) (by kernel_rfl) (by kernel_rfl) rfl rfl (Yd.mvS rfl) ?_
        refine DJ.yd 5 rfl (by kernel_rfl) (by kernel_rfl) (by kernel_rfl) rfl rfl (Yd.mvI rfl) ?_
        refine DJ.idxA 6 rfl (by kernel_rfl) (by kernel_rfl) (by kernel_rfl) rfl rfl hl2 rfl rfl (by omega) (by first | rfl | omega | (simp; done) | (simp; omega) | (simp [upN_len]; omega) | (simp [idxBy_len]; omega) | (simp [marks_len]; omega) | (simp [upN_len]; done) | (simp [idxBy_len]; done) | (simp [marks_len]; done) | (simp at *; omega)) (fun ib23 io23 ia23 ir23 => ?_)
        refine DJ.lgA 7 rfl (by kernel_rfl) (by kernel_rfl) (by kernel_rfl) rfl rfl (enc := encP) (fun u => [vI u.o, vI u.a, vI u.p, .bool u.t, .slice u.x u.n u.c]) (fun _ => rfl) (fun _ => rfl) ir23 rfl rfl (by first | rfl | omega | (simp; done) | (simp; omega) | (simp [upN_len]; omega) | (simp [idxBy_len]; omega) | (simp [marks_len]; omega) | (simp [upN_len]; done) | (simp [idxBy_len]; done) | (simp [marks_len]; done) | (simp at *; omega)) (fun u24 hu24 => ?_)
        try simp only [Int.toNat_natCast] at hu24
        obtain ⟨q2, hq2, hqr2, hqm2⟩ := hk2.pick hu24
        have hq12 : q2 = q1 := by rw [hq1] at hq2; exact (Option.some.inj hq2).symm
        refine DJ.one (i := 8) (by kernel_rfl) ?_
        refine DO.callV rfl rfl rfl (fun k0 hk0 dk0 k hk dk => ih q1 hqm1 _ _ _ hqr1.up (hq12 ▸ hqr2).up) ?_
        refine DJ.yd 9 rfl (by kernel_rfl) (by kernel_rfl) (by kernel_rfl) rfl rfl (Yd.not rfl) ?_
        refine DJ.done (by kernel_rfl) ?_
        refine CJ.condF rfl ?_
        refine CJ.skip ?_
        refine CJ.region ?_
        refine LJ.yd rfl (Yd.mvI rfl) ?_
        refine LJ.yd rfl (Yd.add rfl rfl (by unfold I64; omega)) ?_
        refine LJ.yd rfl (Yd.asI rfl) ?_
        refine LJ.nil ?_
        refine ⟨(k + 1), ?_, ⟨rfl, rfl, trivial⟩, ⟨rfl, trivial⟩, Ent.refl _, ?_⟩
        · omega
        · first | omega | (dsimp only; omega) | (simp only []; omega)
      · refine LJ.nil ?_
        refine CJ.condF rfl ?_
        refine CJ.exit ?_
        refine CJ.seq ?_
        refine CJ.region ?_
        refine LJ.yd rfl (Yd.asB rfl) ?_
        refine LJ.nil ?_
        refine CJ.ret ?_
        refine Fin.V (Res.one (ResV.tmp (v := .bool true) rfl)) ?_
        rfl
theorem eqPlan_ok' (N : Nat) : ∀ (q : Plan), SizeOf.sizeOf q < N → ∀ (u w : PE) (B : Amb), RdPlan B.h (encP u) q → RdPlan B.h (encP w) q → Ctr Try.prog 34 #[.agg (encP u).toArray, .agg (encP w).toArray] B [] (Val (.bool true)) := by
  induction N with
  | zero => intro q h; omega
  | succ N ih =>
  intro q hN u w B hq hw
  obtain ⟨es, kids, rfl, hl, hkk, hn, ho, ha, hp⟩ := hq.kidsL
  obtain ⟨es2, kids2, e, hl2, hkk2, hn2, ho2, ha2, hp2⟩ := hw.kidsL
  injection e with e1 e2 e3 e4 e5
  subst e5
  have hmem : ∀ q ∈ kids, SizeOf.sizeOf q < N := fun q hm => by
    have h1 := List.sizeOf_lt_of_mem hm
    simp only [Plan.mk.sizeOf_spec] at hN
    omega
  refine Ctr.body (args := [_, _]) Try.func34 rfl Try.ntmps34 Try.results34 (by simp) ?_
  refine CJ.seq ?_
  refine CJ.region ?_
  refine LJ.boxG (vs := [_, _, _, _, _]) rfl rfl (fun b1 => ?_)
  refine LJ.boxG (vs := [_, _, _, _, _]) rfl rfl (fun b2 => ?_)
  refine LJ.yd rfl (Yd.asB rfl) ?_
  refine LJ.nil ?_
  refine CJ.seq ?_
  refine CJ.seq ?_
  refine CJ.region ?_
  refine LJ.yd rfl (Yd.fieldAddr rfl) ?_
  refine LJ.yd rfl (Yd.loadC 0 rfl rfl rfl) ?_
  refine LJ.yd rfl (Yd.fieldAddr rfl) ?_
  refine LJ.yd rfl (Yd.loadC 1 rfl rfl rfl) ?_
  refine LJ.yd rfl (Yd.cmpNF (Yd.neq rfl rfl) (by omega)) ?_
  refine LJ.nil ?_
  refine CJ.condF rfl ?_
  refine CJ.skip ?_
  refine CJ.seq ?_
  refine CJ.seq ?_
  refine CJ.region ?_
  refine LJ.yd rfl (Yd.fieldAddr rfl) ?_
  refine LJ.yd rfl (Yd.loadC 0 rfl rfl rfl) ?_
  refine LJ.yd rfl (Yd.fieldAddr rfl) ?_
  refine LJ.yd rfl (Yd.loadC 1 rfl rfl rfl) ?_
  refine LJ.yd rfl (Yd.cmpNF (Yd.neq rfl rfl) (by omega)) ?_
  refine LJ.nil ?_
  refine CJ.condF rfl ?_
  refine CJ.skip ?_
  refine CJ.seq ?_
  refine CJ.seq ?_
  refine CJ.region ?_
  refine LJ.yd rfl (Yd.fieldAddr rfl) ?_
  refine LJ.yd rfl (Yd.loadC 0 rfl rfl rfl) ?_
  refine LJ.yd rfl (Yd.fieldAddr rfl) ?_
  refine LJ.yd rfl (Yd.loadC 1 rfl rfl rfl) ?_
  refine LJ.yd rfl (Yd.cmpNF (Yd.neq rfl rfl) (by omega)) ?_
  refine LJ.nil ?_
  refine CJ.condF rfl ?_
  refine CJ.skip ?_
  refine CJ.seq ?_
  refine CJ.seq ?_
  refine CJ.region ?_
  refine LJ.yd rfl (Yd.fieldAddr rfl) ?_
  refine LJ.yd rfl (Yd.loadC 0 rfl rfl rfl) ?_
  refine LJ.yd rfl (Yd.fieldAddr rfl) ?_
  refine LJ.yd rfl (Yd.loadC 1 rfl rfl rfl) ?_
  refine LJ.yd rfl (Yd.cmpNF (Yd.neqB rfl rfl) (by simp [e4])) ?_
  refine LJ.nil ?_
  refine CJ.condF rfl ?_
  refine CJ.skip ?_
  refine CJ.seq ?_
  refine CJ.seq ?_
  refine CJ.region ?_
  refine LJ.yd rfl (Yd.fieldAddr rfl) ?_
  refine LJ.yd rfl (Yd.loadC 0 rfl rfl rfl) ?_
  refine LJ.yd rfl (Yd.fieldAddr rfl) ?_
  refine LJ.yd rfl (Yd.loadC 1 rfl rfl rfl) ?_
  refine LJ.callV rfl (fun k hk dk => eqPlanS_of hl.up hl2.up (hkk.mono up) (hkk2.mono up) hn hn2 (fun q hm e e2 C hr hr2 => ih q (hmem q hm) e e2 C hr hr2)) ?_
  refine LJ.yd rfl (Yd.not rfl) ?_
  refine LJ.nil ?_
  refine CJ.condF rfl ?_
  refine CJ.skip ?_
  refine CJ.seq ?_
  refine CJ.region ?_
  refine LJ.yd rfl (Yd.asB rfl) ?_
  refine LJ.nil ?_
  refine CJ.ret ?_
  refine Fin.V (Res.one (ResV.tmp (v := .bool true) rfl)) ?_
  rfl
theorem eqPlan_T {A : Amb} {u w : PE} {q : Plan} (h : RdPlan A.h (encP u) q) (h2 : RdPlan A.h (encP w) q) : Ctr Try.prog 34 #[.agg (encP u).toArray, .agg (encP w).toArray] A [] (Val (.bool true)) := eqPlan_ok' _ q (Nat.lt_succ_self _) u w A h h2
theorem Sts.plO {A : Amb} {fr : List HProp} {k : Hp} {u : PE} {q : Plan} (hk : Sts fr k) (dk : A.h.Dj k) (i : Nat) (hi : fr[i]? = some (fun h => PlO h u q)) : RdPlan (A.ext k).h (encP u) q := by
  obtain ⟨m, hm, lm⟩ := hk.get hi
  exact RdPlan.mono (lm.trans (Amb.ext_own dk)) (PlO.rd hm)
end Go.Proofs.Ytlpjienaennmaaa
