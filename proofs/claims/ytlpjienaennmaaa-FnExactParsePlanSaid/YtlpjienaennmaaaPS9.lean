/-
  Marks in plans that are kept, and found again.
-/
import Derived.Test.YtlpjienaennmaaaPS8
namespace Go.Proofs.Ytlpjienaennmaaa
open Go
set_option maxRecDepth 20000
set_option maxHeartbeats 1000000

mutual
def mkP1 : Int → Plan → Plan
  | k, .mk _ _ _ _ qs => .mk k (k + 1) (k + 1 + 1) (decide ((k + 1 + 1 + 1) % 3 = 0)) (mkPs (k + 1 + 1 + 1 + 1) qs)
def mkPs : Int → List Plan → List Plan
  | _, [] => []
  | k, q :: r => mkP1 k q :: mkPs (k + 4 * (1 + nds q)) r
end
def mkR1 (k : Int) : Plan → Plan
  | .mk o a p t qs => .mk o a p t (mkPs k qs)
theorem mkPs_len : ∀ (L : List Plan) (k : Int), (mkPs k L).length = L.length
  | [], _ => by rw [mkPs]
  | q :: r, k => by rw [mkPs, List.length_cons, List.length_cons, mkPs_len r]
theorem mkPs_snoc {q : Plan} : ∀ (L : List Plan) (k : Int), mkPs k (L ++ [q]) = mkPs k L ++ [mkP1 (k + 4 * ndss L) q]
  | [], k => by rw [List.nil_append, mkPs, mkPs, mkPs, List.nil_append, ndss, Int.mul_zero, Int.add_zero]
  | x :: r, k => by
    rw [List.cons_append, mkPs, mkPs_snoc r, mkPs, ndss, List.cons_append]
    congr 4; omega
theorem mkPs_at : ∀ (L : List Plan) (k : Int) (j : Nat) (p q : Plan), L[j]? = some p → (mkPs k L)[j]? = some q → q = mkP1 (k + 4 * ndss (L.take j)) p
  | [], _, _, _, _, h, _ => by simp at h
  | x :: r, k, 0, p, q, h1, h2 => by
    rw [mkPs] at h2
    simp only [List.getElem?_cons_zero, Option.some.injEq] at h1 h2
    subst h1 h2; simp [ndss]
  | x :: r, k, j + 1, p, q, h1, h2 => by
    rw [mkPs] at h2
    simp only [List.getElem?_cons_succ] at h1 h2
    rw [mkPs_at r _ j p q h1 h2, List.take_succ_cons, ndss]
    congr 1; omega
theorem zdrop_at {Z ps : List (PE × Plan)} {k : Nat} {u : PE × Plan} (hZ : Z.length = k) (hu : ps[k]? = some u) : (Z ++ ps.drop k)[k]? = some u := by
  rw [dropC hu, List.getElem?_append_right (by omega), hZ, Nat.sub_self]; rfl
theorem zset {Z ps : List (PE × Plan)} {k : Nat} {u d v a b c : PE × Plan} (hZ : Z.length = k) (hu : ps[k]? = some u) (hd : encE d = encE v) : (((((Z ++ ps.drop k).set k a).set k b).set k c).set k d).map encE = (Z ++ [v] ++ ps.drop (k + 1)).map encE := by
  rw [List.set_set, List.set_set, List.set_set, dropC hu]
  subst hZ
  rw [List.set_append_right _ _ (Nat.le_refl _), Nat.sub_self, List.set_cons_zero]
  simp [hd]
theorem LRE.cong {E : TypeId} {a : Option Addr} {c : Nat} {M N : List (PE × Plan)} {h : Hp} (e : M.map encE = N.map encE) (r : LR encE E 5 a c M h) : LR encE E 5 a c N h := by
  show Row E 5 a c (N.map encE) h
  rw [← e]; exact r
def MkR (x : Option Addr) (c : Nat) (k0 : Int) (qs : List Plan) (v : Value) (gs : List HProp) : Prop := ∃ L2 : List (PE × Plan), v = vI (k0 + 4 * ndss qs) ∧ gs = [LR encE 28 5 x c L2, INN plf L2] ∧ L2.map Prod.snd = mkPs k0 qs
theorem markPlanS_m (N : Nat) : ∀ (qs : List Plan), SizeOf.sizeOf qs < N → ∀ (ps : List (PE × Plan)) (A : Amb) (x : Option Addr) (m c : Nat) (k0 : Int), ps.map Prod.snd = qs → m = ps.length → 0 ≤ k0 → k0 ≤ 20000000 → ndss qs ≤ 1048576 → k0 + 4 * ndss qs ≤ 20000000 →
    Ctr Try.prog 73 #[.slice x m c, vI k0] A [LR encE 28 5 x c ps, INN plf ps] (MkR x c k0 qs) := by
  induction N with
  | zero => intro q h; omega
  | succ N ih =>
  intro qs hN ps A x m c k0 e hm h0 h1 h2 h3
  subst hm
  have hpl := ndss_len (ps.map Prod.snd)
  rw [List.length_map] at hpl
  rw [← e] at h2 h3 hN ⊢
  refine Ctr.body (args := [_, _]) Try.func73 rfl Try.ntmps73 Try.results73 (by simp) ?_
  refine CJ.seq ?_
  refine CJ.region ?_
  refine LJ.yd rfl (Yd.asI rfl) ?_
  refine LJ.nil ?_
  refine CJ.seq ?_
  refine CJ.seq ?_
  refine CJ.ent (INN.ent plf) ?_
  refine CJ.norm [_, _, _] rfl ?_
  refine CJ.region ?_
  refine LJ.yd rfl (Yd.asI rfl) ?_
  refine LJ.nil ?_
  refine CJ.block ?_
  refine CJ.loopF [0, 4] (Nat × Int × List (PE × Plan) × List (PE × Plan)) (fun ⟨k, y, Z, L⟩ => k ≤ ps.length ∧ y = k0 + 4 * ndss ((ps.take k).map Prod.snd) ∧ Z.length = k ∧ Z.map Prod.snd = mkPs k0 ((ps.take k).map Prod.snd) ∧ L = Z ++ ps.drop k) (fun ⟨k, y, Z, L⟩ => [(5, vI k), (1, vI y)]) (fun ⟨k, y, Z, L⟩ => [LR encE 28 5 x c L, INN plf (ps.drop k), INN plf Z]) (fun ⟨k, y, Z, L⟩ => ps.length - k) (0, k0, [], ps) [] [] [0, 1, 2] rfl rfl rfl ?_ ⟨rfl, rfl, trivial⟩ ?_
  · exact ⟨by omega, by simp [ndss], rfl, by simp [mkPs], rfl⟩
  · rintro ⟨k, y, Z, L⟩ σ ⟨hk1, hy, hZl, hZ, hL⟩
    refine CJ.norm [_, _, _] rfl ?_
    refine CJ.seq ?_
    refine CJ.seq ?_
    refine CJ.region ?_
    refine LJ.yd rfl (Yd.mvI rfl) ?_
    refine LJ.yd rfl (Yd.mvS rfl) ?_
    refine LJ.yd rfl (Yd.len rfl) ?_
    refine LJ.splitD rfl (Yd.lss rfl rfl) (fun h9 => ?_) (fun h9 => ?_)
    · refine LJ.nil ?_
      refine CJ.condT rfl ?_
      refine CJ.skip ?_
      refine CJ.seq ?_
      refine CJ.block ?_
      refine CJ.seq ?_
      obtain ⟨u, hu⟩ := someC (l := ps) (j := k) (by omega)
      have hLu : L[k]? = some u := by rw [hL]; exact zdrop_at hZl hu
      have hLl : L.length = ps.length := by rw [hL, List.length_append, List.length_drop]; omega
      have hnt := ndss_take hu
      have hnb := ndss_take_le ps (k + 1)
      have hnb2 := ndss_take_le ps k
      have hnu := nds_nonneg u.2
      rw [show ps.drop k = u :: ps.drop (k + 1) from dropC hu]
      refine CJ.ent (Ent.pickSts [0, 2] [1] rfl (fun _ s => INN.open (j := 0) rfl s)) ?_
      refine CJ.norm [_, _, _, _] rfl ?_
      refine CJ.openPl [0, 1, 3] [2] rfl rfl (fun ps2 hz0 hz1 hz2 => ?_)
      refine CJ.norm [_, _, _, _, _] rfl ?_
      have hsz2 := sz_kids hu hN hz0
      have hn2 : nds u.2 = ndss (ps2.map Prod.snd) := by rw [hz0, nds]
      refine CJ.region ?_
      refine LJ.yd rfl (Yd.mvS rfl) ?_
      refine LJ.yd rfl (Yd.mvI rfl) ?_
      refine LJ.yd rfl (Yd.mvI rfl) ?_
      refine LJ.idxR 0 rfl rfl rfl rfl (by omega) (by first | rfl | omega | (simp; done) | (simp; omega) | (simp [upN_len]; omega) | (simp [idxBy_len]; omega) | (simp [marks_len]; omega) | (simp [upN_len]; done) | (simp [idxBy_len]; done) | (simp [marks_len]; done) | (simp at *; omega)) (by first | rfl | omega | (simp; done) | (simp; omega) | (simp [upN_len]; omega) | (simp [idxBy_len]; omega) | (simp [marks_len]; omega) | (simp [upN_len]; done) | (simp [idxBy_len]; done) | (simp [marks_len]; done) | (simp at *; omega)) (fun ib15 ia15 => ?_)
      refine LJ.yd rfl (Yd.fieldAddr rfl) ?_
      refine LJ.op rfl (OpR.stR (enc := encE) (u' := (⟨y, u.1.a, u.1.p, u.1.t, u.1.x, u.1.n, u.1.c⟩, u.2)) 0 0 rfl ia15 rfl rfl hLu rfl rfl rfl rfl rfl) ?_
      rintro _ _ ⟨rfl, rfl⟩
      refine LJ.norm [_, _, _, _, _] rfl ?_
      refine LJ.nil ?_
      refine CJ.seq ?_
      refine CJ.region ?_
      refine LJ.yd rfl (Yd.mvI rfl) ?_
      refine LJ.yd rfl (Yd.add rfl rfl (by unfold I64; omega)) ?_
      refine LJ.yd rfl (Yd.asI rfl) ?_
      refine LJ.nil ?_
      refine CJ.seq ?_
      refine CJ.region ?_
      refine LJ.yd rfl (Yd.mvS rfl) ?_
      refine LJ.yd rfl (Yd.mvI rfl) ?_
      refine LJ.yd rfl (Yd.mvI rfl) ?_
      refine LJ.idxR 0 rfl rfl rfl rfl (by omega) (by first | rfl | omega | (simp; done) | (simp; omega) | (simp [upN_len]; omega) | (simp [idxBy_len]; omega) | (simp [marks_len]; omega) | (simp [upN_len]; done) | (simp [idxBy_len]; done) | (simp [marks_len]; done) | (simp at *; omega)) (by first | rfl | omega | (simp; done) | (simp; omega) | (simp [upN_len]; omega) | (simp [idxBy_len]; omega) | (simp [marks_len]; omega) | (simp [upN_len]; done) | (simp [idxBy_len]; done) | (simp [marks_len]; done) | (simp at *; omega)) (fun ib22 ia22 => ?_)
      refine LJ.yd rfl (Yd.fieldAddr rfl) ?_
      refine LJ.op rfl (OpR.stR (enc := encE) (u' := (⟨y, y + 1, u.1.p, u.1.t, u.1.x, u.1.n, u.1.c⟩, u.2)) 0 1 rfl ia22 rfl rfl (List.getElem?_set_self (by first | omega | (simp; omega))) rfl rfl rfl rfl rfl) ?_
      rintro _ _ ⟨rfl, rfl⟩
      refine LJ.norm [_, _, _, _, _] rfl ?_
      refine LJ.nil ?_
      refine CJ.seq ?_
      refine CJ.region ?_
      refine LJ.yd rfl (Yd.mvI rfl) ?_
      refine LJ.yd rfl (Yd.add rfl rfl (by unfold I64; omega)) ?_
      refine LJ.yd rfl (Yd.asI rfl) ?_
      refine LJ.nil ?_
      refine CJ.seq ?_
      refine CJ.region ?_
      refine LJ.yd rfl (Yd.mvS rfl) ?_
      refine LJ.yd rfl (Yd.mvI rfl) ?_
      refine LJ.yd rfl (Yd.mvI rfl) ?_
      refine LJ.idxR 0 rfl rfl rfl rfl (by omega) (by first | rfl | omega | (simp; done) | (simp; omega) | (simp [upN_len]; omega) | (simp [idxBy_len]; omega) | (simp [marks_len]; omega) | (simp [upN_len]; done) | (simp [idxBy_len]; done) | (simp [marks_len]; done) | (simp at *; omega)) (by first | rfl | omega | (simp; done) | (simp; omega) | (simp [upN_len]; omega) | (simp [idxBy_len]; omega) | (simp [marks_len]; omega) | (simp [upN_len]; done) | (simp [idxBy_len]; done) | (simp [marks_len]; done) | (simp at *; omega)) (fun ib29 ia29 => ?_)
      refine LJ.yd rfl (Yd.fieldAddr rfl) ?_
      refine LJ.op rfl (OpR.stR (enc := encE) (u' := (⟨y, y + 1, y + 1 + 1, u.1.t, u.1.x, u.1.n, u.1.c⟩, u.2)) 0 2 rfl ia29 rfl rfl (List.getElem?_set_self (by first | omega | (simp; omega))) rfl rfl rfl rfl rfl) ?_
      rintro _ _ ⟨rfl, rfl⟩
      refine LJ.norm [_, _, _, _, _] rfl ?_
      refine LJ.nil ?_
      refine CJ.seq ?_
      refine CJ.region ?_
      refine LJ.yd rfl (Yd.mvI rfl) ?_
      refine LJ.yd rfl (Yd.add rfl rfl (by unfold I64; omega)) ?_
      refine LJ.yd rfl (Yd.asI rfl) ?_
      refine LJ.nil ?_
      refine CJ.seq ?_
      refine CJ.region ?_
      refine LJ.yd rfl (Yd.mvS rfl) ?_
      refine LJ.yd rfl (Yd.mvI rfl) ?_
      refine LJ.yd rfl (Yd.mvI rfl) ?_
      refine LJ.yd rfl (Yd.rem rfl rfl (by omega) (by omega)) ?_
      refine LJ.yd rfl (Yd.eql rfl rfl) ?_
      refine LJ.idxR 0 rfl rfl rfl rfl (by omega) (by first | rfl | omega | (simp; done) | (simp; omega) | (simp [upN_len]; omega) | (simp [idxBy_len]; omega) | (simp [marks_len]; omega) | (simp [upN_len]; done) | (simp [idxBy_len]; done) | (simp [marks_len]; done) | (simp at *; omega)) (by first | rfl | omega | (simp; done) | (simp; omega) | (simp [upN_len]; omega) | (simp [idxBy_len]; omega) | (simp [marks_len]; omega) | (simp [upN_len]; done) | (simp [idxBy_len]; done) | (simp [marks_len]; done) | (simp at *; omega)) (fun ib38 ia38 => ?_)
      refine LJ.yd rfl (Yd.fieldAddr rfl) ?_
      refine LJ.op rfl (OpR.stR (enc := encE) (u' := (⟨y, y + 1, y + 1 + 1, decide ((y + 1 + 1 + 1) % 3 = 0), u.1.x, u.1.n, u.1.c⟩, u.2)) 0 3 rfl ia38 rfl rfl (List.getElem?_set_self (by first | omega | (simp; omega))) rfl rfl rfl rfl rfl) ?_
      rintro _ _ ⟨rfl, rfl⟩
      refine LJ.norm [_, _, _, _, _] rfl ?_
      refine LJ.nil ?_
      refine CJ.seq ?_
      refine CJ.region ?_
      refine LJ.yd rfl (Yd.mvI rfl) ?_
      refine LJ.yd rfl (Yd.add rfl rfl (by unfold I64; omega)) ?_
      refine LJ.yd rfl (Yd.asI rfl) ?_
      refine LJ.nil ?_
      refine CJ.region ?_
      refine LJ.yd rfl (Yd.mvS rfl) ?_
      refine LJ.yd rfl (Yd.mvI rfl) ?_
      refine LJ.idxR 0 rfl rfl rfl rfl (by omega) (by first | rfl | omega | (simp; done) | (simp; omega) | (simp [upN_len]; omega) | (simp [idxBy_len]; omega) | (simp [marks_len]; omega) | (simp [upN_len]; done) | (simp [idxBy_len]; done) | (simp [marks_len]; done) | (simp at *; omega)) (by first | rfl | omega | (simp; done) | (simp; omega) | (simp [upN_len]; omega) | (simp [idxBy_len]; omega) | (simp [marks_len]; omega) | (simp [upN_len]; done) | (simp [idxBy_len]; done) | (simp [marks_len]; done) | (simp at *; omega)) (fun ib44 ia44 => ?_)
      refine LJ.yd rfl (Yd.fieldAddr rfl) ?_
      refine LJ.ldR 0 4 (fun u => .slice u.1.x u.1.n u.1.c) (fun _ => rfl) rfl ia44 rfl rfl rfl (by first | rfl | omega | (simp; done) | (simp; omega) | (simp [upN_len]; omega) | (simp [idxBy_len]; omega) | (simp [marks_len]; omega) | (simp [upN_len]; done) | (simp [idxBy_len]; done) | (simp [marks_len]; done) | (simp at *; omega)) (fun u46 hu46 => ?_)
      try simp only [Int.toNat_natCast] at hu46
      rw [List.getElem?_set_self (by simp; omega)] at hu46
      obtain rfl := Option.some.inj hu46
      refine LJ.yd rfl (Yd.mvI rfl) ?_
      refine LJ.call (pickF _ [0, 1, 2]) (pickF _ [3, 4]) rfl (perm_pickF _ [0, 1, 2] [3, 4] rfl) (fun k hk dk => ih _ hsz2 ps2 _ _ _ _ _ rfl hz1 (by omega) (by omega) (by omega) (by omega)) ?_
      rintro _ _ ⟨L2, rfl, rfl, hL2⟩
      refine LJ.norm [_, _, _, _, _] rfl ?_
      refine LJ.yd rfl (Yd.asI rfl) ?_
      refine LJ.nil ?_
      have hL2l : L2.length = ps2.length := by have := congrArg List.length hL2; rwa [List.length_map, mkPs_len, List.length_map] at this
      refine CJ.ent (Ent.pickFold [0, 1, 2] [3, 4] [] rfl (PlO.fold (x := u.1.x) (c := u.1.c) (o := y) (a := y + 1) (p := y + 1 + 1) (t := decide ((y + 1 + 1 + 1) % 3 = 0)) (ps := L2) (by unfold I64; omega) (by unfold I64; omega) (by unfold I64; omega) (by omega))) ?_
      refine CJ.norm [_, _, _, _] rfl ?_
      refine CJ.ent (Ent.pickFold [0, 2] [1, 3] [] rfl (fun _ s => INN.snoc (f := plf) (u := ((⟨y, y + 1, y + 1 + 1, decide ((y + 1 + 1 + 1) % 3 = 0), u.1.x, L2.length, u.1.c⟩, .mk y (y + 1) (y + 1 + 1) (decide ((y + 1 + 1 + 1) % 3 = 0)) (L2.map Prod.snd)) : PE × Plan)) s)) ?_
      refine CJ.norm [_, _, _] rfl ?_
      refine CJ.imp1 (G := LR encE 28 5 x c (Z ++ [((⟨y, y + 1, y + 1 + 1, decide ((y + 1 + 1 + 1) % 3 = 0), u.1.x, L2.length, u.1.c⟩, .mk y (y + 1) (y + 1 + 1) (decide ((y + 1 + 1 + 1) % 3 = 0)) (L2.map Prod.snd)) : PE × Plan)] ++ ps.drop (k + 1))) 0 rfl (fun _ r => LRE.cong (by rw [hL]; exact zset hZl hu (by simp only [encE, encP]; rw [hL2l, ← hz1])) r) ?_
      refine CJ.norm [_, _, _] rfl ?_
      refine CJ.region ?_
      refine LJ.yd rfl (Yd.mvI rfl) ?_
      refine LJ.yd rfl (Yd.add rfl rfl (by unfold I64; omega)) ?_
      refine LJ.yd rfl (Yd.asI rfl) ?_
      refine LJ.nil ?_
      refine ⟨(k + 1, _, Z ++ [((⟨y, y + 1, y + 1 + 1, decide ((y + 1 + 1 + 1) % 3 = 0), u.1.x, L2.length, u.1.c⟩, .mk y (y + 1) (y + 1 + 1) (decide ((y + 1 + 1 + 1) % 3 = 0)) (L2.map Prod.snd)) : PE × Plan)], Z ++ [((⟨y, y + 1, y + 1 + 1, decide ((y + 1 + 1 + 1) % 3 = 0), u.1.x, L2.length, u.1.c⟩, .mk y (y + 1) (y + 1 + 1) (decide ((y + 1 + 1 + 1) % 3 = 0)) (L2.map Prod.snd)) : PE × Plan)] ++ ps.drop (k + 1)), ?_, ⟨rfl, rfl, trivial⟩, ⟨rfl, rfl, trivial⟩, Ent.refl _, ?_⟩
      · refine ⟨by omega, ?_⟩
        refine ⟨by omega, by simp [hZl], ?_, rfl⟩
        rw [List.map_append, hZ, takeC hu, List.map_append]
        show _ ++ [Plan.mk _ _ _ _ _] = mkPs k0 (_ ++ [u.2])
        rw [mkPs_snoc, ← hy, hz0, mkP1, hL2]
      · first | omega | (dsimp only; omega) | (simp only []; omega)
    · refine LJ.nil ?_
      refine CJ.condF rfl ?_
      refine CJ.exit ?_
      refine CJ.seq ?_
      refine CJ.region ?_
      refine LJ.yd rfl (Yd.mvI rfl) ?_
      refine LJ.yd rfl (Yd.asI rfl) ?_
      refine LJ.nil ?_
      refine CJ.ret ?_
      obtain rfl : k = ps.length := by omega
      rw [List.take_of_length_le (Nat.le_refl _)] at hy hZ
      rw [List.drop_of_length_le (Nat.le_refl _), List.append_nil] at hL
      subst hL
      rw [hy]
      exact Fin.R [_, _] (Res.one (ResV.tmp (v := .int _ _) rfl)) ⟨_, rfl, rfl, hZ⟩ (Ent.pick [0, 2] [1] rfl)
theorem PlO.i64 {h : Hp} {u : PE} {q : Plan} (r : PlO h u q) : I64 u.o ∧ I64 u.a ∧ I64 u.p := by
  cases r with
  | mk a b c _ _ _ _ _ _ _ => exact ⟨a, b, c⟩
theorem markPlan_m {A : Amb} {u : PE} {q : Plan} {k0 : Int} (hu : I64 u.o ∧ I64 u.a ∧ I64 u.p) (h0 : 0 ≤ k0) (h1 : k0 ≤ 10000000) (hn : nds q ≤ 1048576) : Ctr Try.prog 35 #[.agg (encP u).toArray, vI k0] A [fun h => PlO h u q] (fun v gs => v = vI (k0 + 4 * nds q) ∧ gs = [fun h => PlO h u (mkR1 k0 q)]) := by
  have hnn := nds_nonneg q
  refine Ctr.body (args := [_, _]) Try.func35 rfl Try.ntmps35 Try.results35 (by simp) ?_
  refine CJ.seq ?_
  refine CJ.region ?_
  refine LJ.boxG (vs := [_, _, _, _, _]) rfl rfl (fun b1 => ?_)
  refine LJ.yd rfl (Yd.asI rfl) ?_
  refine LJ.nil ?_
  refine CJ.seq ?_
  refine CJ.openPl [1] [0] rfl rfl (fun ps2 hz0 hz1 hz2 => ?_)
  refine CJ.norm [_, _, _] rfl ?_
  have hn2 : nds q = ndss (ps2.map Prod.snd) := by rw [hz0, nds]
  refine CJ.region ?_
  refine LJ.yd rfl (Yd.fieldAddr rfl) ?_
  refine LJ.yd rfl (Yd.loadC 0 rfl rfl rfl) ?_
  refine LJ.yd rfl (Yd.mvI rfl) ?_
  refine LJ.call (pickF _ [0]) (pickF _ [1, 2]) rfl (perm_pickF _ [0] [1, 2] rfl) (fun k hk dk => markPlanS_m _ _ (Nat.lt_succ_self _) ps2 _ _ _ _ _ rfl hz1 (by omega) (by omega) (by omega) (by omega)) ?_
  rintro _ _ ⟨L2, rfl, rfl, hL2⟩
  refine LJ.norm [_, _, _] rfl ?_
  refine LJ.yd rfl (Yd.asI rfl) ?_
  refine LJ.nil ?_
  refine CJ.seq ?_
  refine CJ.region ?_
  refine LJ.yd rfl (Yd.mvI rfl) ?_
  refine LJ.yd rfl (Yd.asI rfl) ?_
  refine LJ.nil ?_
  refine CJ.ret ?_
  have hL2l : L2.length = ps2.length := by have := congrArg List.length hL2; rwa [List.length_map, mkPs_len, List.length_map] at this
  obtain ⟨uo, ua, up2, ut, ux, un, uc⟩ := u
  dsimp only at hz0 hz1 hu
  obtain rfl : un = L2.length := by omega
  refine Fin.R [_] (Res.one (ResV.tmp (v := .int _ _) rfl)) ⟨by rw [hn2], rfl⟩ ?_
  rw [hz0, mkR1, ← hL2]
  exact Ent.pickFold [] [1, 2] [0] rfl (PlO.fold hu.1 hu.2.1 hu.2.2 (by omega))
theorem mod3 {a : Int} : decide (a % 3 = 0) = decide (a % 3 = 0) := rfl
theorem heldPlanS_m (N : Nat) : ∀ (qs : List Plan), SizeOf.sizeOf qs < N → ∀ (es : List PE) (A : Amb) (x : Option Addr) (n c : Nat) (k0 : Int), RdL encP 5 A.h (.slice x n c) es → RdPlans A.h (es.map encP) (mkPs k0 qs) → n = es.length → 0 ≤ k0 → ndss qs ≤ 1048576 → k0 + 4 * ndss qs ≤ 20000000 →
    Ctr Try.prog 74 #[.slice x n c, vI k0] A [] (Val (vI (k0 + 4 * ndss qs))) := by
  induction N with
  | zero => intro q h; omega
  | succ N ih =>
  intro qs hN es A x n c k0 hl hkk hn h0 h2 h3
  subst hn
  have hkl := hkk.length
  rw [List.length_map, mkPs_len] at hkl
  have hpl := ndss_len qs
  have hll := hl.len
  refine Ctr.body (args := [_, _]) Try.func74 rfl Try.ntmps74 Try.results74 (by simp) ?_
  refine CJ.seq ?_
  refine CJ.region ?_
  refine LJ.yd rfl (Yd.asI rfl) ?_
  refine LJ.nil ?_
  refine CJ.seq ?_
  refine CJ.seq ?_
  refine CJ.region ?_
  refine LJ.yd rfl (Yd.asI rfl) ?_
  refine LJ.nil ?_
  refine CJ.block ?_
  refine CJ.loopK [0] (Nat × Int) (fun ⟨k, y⟩ => k ≤ es.length ∧ y = k0 + 4 * ndss (qs.take k)) (fun ⟨k, y⟩ => [(5, vI k), (1, vI y)]) (fun ⟨k, y⟩ => es.length - k) (0, k0) ?_ ⟨rfl, rfl, trivial⟩ ?_
  · exact ⟨by omega, by simp [ndss]⟩
  · rintro ⟨k, y⟩ σ ⟨hk1, hy⟩
    refine CJ.seq ?_
    refine CJ.seq ?_
    refine CJ.region ?_
    refine LJ.yd rfl (Yd.mvI rfl) ?_
    refine LJ.yd rfl (Yd.mvS rfl) ?_
    refine LJ.yd rfl (Yd.len rfl) ?_
    refine LJ.splitD rfl (Yd.lss rfl rfl) (fun h9 => ?_) (fun h9 => ?_)
    · refine LJ.nil ?_
      refine CJ.condT rfl ?_
      refine CJ.skip ?_
      refine CJ.seq ?_
      refine CJ.block ?_
      refine CJ.seq ?_
      refine CJ.seq ?_
      obtain ⟨w, hw⟩ := someC (l := es) (j := k) (by omega)
      obtain ⟨p, hp⟩ := someC (l := qs) (j := k) (by omega)
      obtain ⟨o9, a9, p9, t9, qs2⟩ := p
      obtain ⟨q1, hq1, hqr1, hqm1⟩ := hkk.pick hw
      have hq1e := mkPs_at qs k0 k _ q1 hp hq1
      rw [← hy, mkP1] at hq1e
      obtain ⟨es2, kids2, e2, hq2r, hq2k, hq2n, ho2, ha2, hp2⟩ := hqr1.kidsL
      rw [hq1e] at e2
      injection e2 with e3 e4 e5 e6 e7
      subst e7
      have htk : ndss (qs.take (k + 1)) = ndss (qs.take k) + (1 + ndss qs2) := by
        rw [takeC hp, ndss_append]; simp only [ndss, nds]; omega
      have hsz : SizeOf.sizeOf qs2 < N := by
        have h1 := List.sizeOf_lt_of_mem (List.mem_of_getElem? hp)
        simp only [Plan.mk.sizeOf_spec] at h1
        omega
      have hnt : ndss (qs.take (k + 1)) ≤ ndss qs := by
        have e8 : qs = qs.take (k + 1) ++ qs.drop (k + 1) := (List.take_append_drop ..).symm
        have h8 := ndss_nonneg (qs.drop (k + 1))
        have h9 := congrArg ndss e8
        rw [ndss_append] at h9; omega
      have hnk0 := ndss_nonneg (qs.take k)
      have hnk2 := ndss_nonneg qs2
      refine CJ.region ?_
      refine LJ.yd rfl (Yd.mvS rfl) ?_
      refine LJ.yd rfl (Yd.mvI rfl) ?_
      refine LJ.idxA rfl hl rfl rfl (by omega) (by first | rfl | omega | (simp; done) | (simp; omega) | (simp [upN_len]; omega) | (simp [idxBy_len]; omega) | (simp [marks_len]; omega) | (simp [upN_len]; done) | (simp [idxBy_len]; done) | (simp [marks_len]; done) | (simp at *; omega)) (fun ib14 io14 ia14 ir14 => ?_)
      refine LJ.yd rfl (Yd.fieldAddr rfl) ?_
      refine LJ.ldA 0 (fun u => vI u.o) (fun _ => rfl) ir14 rfl rfl rfl (by first | rfl | omega | (simp; done) | (simp; omega) | (simp [upN_len]; omega) | (simp [idxBy_len]; omega) | (simp [marks_len]; omega) | (simp [upN_len]; done) | (simp [idxBy_len]; done) | (simp [marks_len]; done) | (simp at *; omega)) (fun u16 hu16 => ?_)
      try simp only [Int.toNat_natCast] at hu16
      obtain rfl : w = u16 := by rw [hw] at hu16; exact Option.some.inj hu16
      refine LJ.yd rfl (Yd.mvI rfl) ?_
      refine LJ.yd rfl (Yd.cmpNF (Yd.neq rfl rfl) (by omega)) ?_
      refine LJ.nil ?_
      refine CJ.condF rfl ?_
      refine CJ.skip ?_
      refine CJ.seq ?_
      refine CJ.region ?_
      refine LJ.yd rfl (Yd.mvI rfl) ?_
      refine LJ.yd rfl (Yd.add rfl rfl (by unfold I64; omega)) ?_
      refine LJ.yd rfl (Yd.asI rfl) ?_
      refine LJ.nil ?_
      refine CJ.seq ?_
      refine CJ.seq ?_
      refine CJ.region ?_
      refine LJ.yd rfl (Yd.mvS rfl) ?_
      refine LJ.yd rfl (Yd.mvI rfl) ?_
      refine LJ.idxA rfl hl rfl rfl (by omega) (by first | rfl | omega | (simp; done) | (simp; omega) | (simp [upN_len]; omega) | (simp [idxBy_len]; omega) | (simp [marks_len]; omega) | (simp [upN_len]; done) | (simp [idxBy_len]; done) | (simp [marks_len]; done) | (simp at *; omega)) (fun ib23 io23 ia23 ir23 => ?_)
      refine LJ.yd rfl (Yd.fieldAddr rfl) ?_
      refine LJ.ldA 1 (fun u => vI u.a) (fun _ => rfl) ir23 rfl rfl rfl (by first | rfl | omega | (simp; done) | (simp; omega) | (simp [upN_len]; omega) | (simp [idxBy_len]; omega) | (simp [marks_len]; omega) | (simp [upN_len]; done) | (simp [idxBy_len]; done) | (simp [marks_len]; done) | (simp at *; omega)) (fun u25 hu25 => ?_)
      try simp only [Int.toNat_natCast] at hu25
      obtain rfl : w = u25 := by rw [hw] at hu25; exact Option.some.inj hu25
      refine LJ.yd rfl (Yd.mvI rfl) ?_
      refine LJ.yd rfl (Yd.cmpNF (Yd.neq rfl rfl) (by omega)) ?_
      refine LJ.nil ?_
      refine CJ.condF rfl ?_
      refine CJ.skip ?_
      refine CJ.seq ?_
      refine CJ.region ?_
      refine LJ.yd rfl (Yd.mvI rfl) ?_
      refine LJ.yd rfl (Yd.add rfl rfl (by unfold I64; omega)) ?_
      refine LJ.yd rfl (Yd.asI rfl) ?_
      refine LJ.nil ?_
      refine CJ.seq ?_
      refine CJ.seq ?_
      refine CJ.region ?_
      refine LJ.yd rfl (Yd.mvS rfl) ?_
      refine LJ.yd rfl (Yd.mvI rfl) ?_
      refine LJ.idxA rfl hl rfl rfl (by omega) (by first | rfl | omega | (simp; done) | (simp; omega) | (simp [upN_len]; omega) | (simp [idxBy_len]; omega) | (simp [marks_len]; omega) | (simp [upN_len]; done) | (simp [idxBy_len]; done) | (simp [marks_len]; done) | (simp at *; omega)) (fun ib32 io32 ia32 ir32 => ?_)
      refine LJ.yd rfl (Yd.fieldAddr rfl) ?_
      refine LJ.ldA 2 (fun u => vI u.p) (fun _ => rfl) ir32 rfl rfl rfl (by first | rfl | omega | (simp; done) | (simp; omega) | (simp [upN_len]; omega) | (simp [idxBy_len]; omega) | (simp [marks_len]; omega) | (simp [upN_len]; done) | (simp [idxBy_len]; done) | (simp [marks_len]; done) | (simp at *; omega)) (fun u34 hu34 => ?_)
      try simp only [Int.toNat_natCast] at hu34
      obtain rfl : w = u34 := by rw [hw] at hu34; exact Option.some.inj hu34
      refine LJ.yd rfl (Yd.mvI rfl) ?_
      refine LJ.yd rfl (Yd.cmpNF (Yd.neq rfl rfl) (by omega)) ?_
      refine LJ.nil ?_
      refine CJ.condF rfl ?_
      refine CJ.skip ?_
      refine CJ.seq ?_
      refine CJ.region ?_
      refine LJ.yd rfl (Yd.mvI rfl) ?_
      refine LJ.yd rfl (Yd.add rfl rfl (by unfold I64; omega)) ?_
      refine LJ.yd rfl (Yd.asI rfl) ?_
      refine LJ.nil ?_
      refine CJ.seq ?_
      refine CJ.seq ?_
      refine CJ.region ?_
      refine LJ.yd rfl (Yd.mvS rfl) ?_
      refine LJ.yd rfl (Yd.mvI rfl) ?_
      refine LJ.idxA rfl hl rfl rfl (by omega) (by first | rfl | omega | (simp; done) | (simp; omega) | (simp [upN_len]; omega) | (simp [idxBy_len]; omega) | (simp [marks_len]; omega) | (simp [upN_len]; done) | (simp [idxBy_len]; done) | (simp [marks_len]; done) | (simp at *; omega)) (fun ib41 io41 ia41 ir41 => ?_)
      refine LJ.yd rfl (Yd.fieldAddr rfl) ?_
      refine LJ.ldA 3 (fun u => .bool u.t) (fun _ => rfl) ir41 rfl rfl rfl (by first | rfl | omega | (simp; done) | (simp; omega) | (simp [upN_len]; omega) | (simp [idxBy_len]; omega) | (simp [marks_len]; omega) | (simp [upN_len]; done) | (simp [idxBy_len]; done) | (simp [marks_len]; done) | (simp at *; omega)) (fun u43 hu43 => ?_)
      try simp only [Int.toNat_natCast] at hu43
      obtain rfl : w = u43 := by rw [hw] at hu43; exact Option.some.inj hu43
      refine LJ.yd rfl (Yd.mvI rfl) ?_
      refine LJ.yd rfl (Yd.rem rfl rfl (by omega) (by omega)) ?_
      refine LJ.yd rfl (Yd.eql rfl rfl) ?_
      refine LJ.yd rfl (Yd.cmpNF (Yd.neqB rfl rfl) e6.symm) ?_
      refine LJ.nil ?_
      refine CJ.condF rfl ?_
      refine CJ.skip ?_
      refine CJ.seq ?_
      refine CJ.region ?_
      refine LJ.yd rfl (Yd.mvI rfl) ?_
      refine LJ.yd rfl (Yd.add rfl rfl (by unfold I64; omega)) ?_
      refine LJ.yd rfl (Yd.asI rfl) ?_
      refine LJ.nil ?_
      refine CJ.seq ?_
      refine CJ.region ?_
      refine LJ.yd rfl (Yd.mvS rfl) ?_
      refine LJ.yd rfl (Yd.mvI rfl) ?_
      refine LJ.idxA rfl hl rfl rfl (by omega) (by first | rfl | omega | (simp; done) | (simp; omega) | (simp [upN_len]; omega) | (simp [idxBy_len]; omega) | (simp [marks_len]; omega) | (simp [upN_len]; done) | (simp [idxBy_len]; done) | (simp [marks_len]; done) | (simp at *; omega)) (fun ib52 io52 ia52 ir52 => ?_)
      refine LJ.yd rfl (Yd.fieldAddr rfl) ?_
      refine LJ.ldA 4 (fun u => .slice u.x u.n u.c) (fun _ => rfl) ir52 rfl rfl rfl (by first | rfl | omega | (simp; done) | (simp; omega) | (simp [upN_len]; omega) | (simp [idxBy_len]; omega) | (simp [marks_len]; omega) | (simp [upN_len]; done) | (simp [idxBy_len]; done) | (simp [marks_len]; done) | (simp at *; omega)) (fun u54 hu54 => ?_)
      try simp only [Int.toNat_natCast] at hu54
      obtain rfl : w = u54 := by rw [hw] at hu54; exact Option.some.inj hu54
      refine LJ.yd rfl (Yd.mvI rfl) ?_
      refine LJ.callV rfl (fun k hk dk => ih qs2 hsz es2 _ _ _ _ _ (RdRow.up hq2r) (hq2k.mono up) hq2n (by omega) (by omega) (by omega)) ?_
      refine LJ.yd rfl (Yd.asI rfl) ?_
      refine LJ.nil ?_
      refine CJ.seq ?_
      refine CJ.region ?_
      refine LJ.yd rfl (Yd.mvI rfl) ?_
      refine LJ.yd rfl (Yd.cmpF (Yd.lss rfl rfl) (by omega)) ?_
      refine LJ.nil ?_
      refine CJ.condF rfl ?_
      refine CJ.skip ?_
      refine CJ.region ?_
      refine LJ.yd rfl (Yd.mvI rfl) ?_
      refine LJ.yd rfl (Yd.add rfl rfl (by unfold I64; omega)) ?_
      refine LJ.yd rfl (Yd.asI rfl) ?_
      refine LJ.nil ?_
      refine ⟨(k + 1, _), ?_, ⟨rfl, trivial⟩, ⟨rfl, rfl, trivial⟩, Ent.refl _, ?_⟩
      · refine ⟨by omega, ?_⟩
        rw [hy, htk]; omega
      · first | omega | (dsimp only; omega) | (simp only []; omega)
    · refine LJ.nil ?_
      refine CJ.condF rfl ?_
      refine CJ.exit ?_
      refine CJ.seq ?_
      refine CJ.region ?_
      refine LJ.yd rfl (Yd.mvI rfl) ?_
      refine LJ.yd rfl (Yd.asI rfl) ?_
      refine LJ.nil ?_
      refine CJ.ret ?_
      refine Fin.V (Res.one (ResV.tmp (v := .int _ _) rfl)) ?_
      rw [hy, List.take_of_length_le (by omega)]
theorem heldPlan_m {A : Amb} {u : PE} {q : Plan} {k0 : Int} (h : RdPlan A.h (encP u) (mkR1 k0 q)) (h0 : 0 ≤ k0) (h1 : k0 ≤ 10000000) (hn : nds q ≤ 1048576) : Ctr Try.prog 36 #[.agg (encP u).toArray, vI k0] A [] (Val (vI (k0 + 4 * nds q))) := by
  obtain ⟨o, a, p, t, qs⟩ := q
  have hnn := nds_nonneg (.mk o a p t qs)
  obtain ⟨es, kids, e, hl, hkk, hn2, ho, ha, hp⟩ := h.kidsL
  rw [mkR1] at e
  injection e with e3 e4 e5 e6 e7
  subst e7
  simp only [nds] at hn hnn ⊢
  refine Ctr.body (args := [_, _]) Try.func36 rfl Try.ntmps36 Try.results36 (by simp) ?_
  refine CJ.seq ?_
  refine CJ.region ?_
  refine LJ.boxG (vs := [_, _, _, _, _]) rfl rfl (fun b1 => ?_)
  refine LJ.yd rfl (Yd.asI rfl) ?_
  refine LJ.nil ?_
  refine CJ.seq ?_
  refine CJ.region ?_
  refine LJ.yd rfl (Yd.fieldAddr rfl) ?_
  refine LJ.yd rfl (Yd.loadC 0 rfl rfl rfl) ?_
  refine LJ.yd rfl (Yd.mvI rfl) ?_
  refine LJ.callV rfl (fun k hk dk => heldPlanS_m _ qs (Nat.lt_succ_self _) es _ _ _ _ _ (RdRow.up hl) (hkk.mono up) hn2 (by omega) (by omega) (by omega)) ?_
  refine LJ.yd rfl (Yd.asI rfl) ?_
  refine LJ.nil ?_
  refine CJ.seq ?_
  refine CJ.seq ?_
  refine CJ.region ?_
  refine LJ.yd rfl (Yd.mvI rfl) ?_
  refine LJ.yd rfl (Yd.cmpF (Yd.lss rfl rfl) (by omega)) ?_
  refine LJ.nil ?_
  refine CJ.condF rfl ?_
  refine CJ.skip ?_
  refine CJ.seq ?_
  refine CJ.region ?_
  refine LJ.yd rfl (Yd.mvI rfl) ?_
  refine LJ.yd rfl (Yd.asI rfl) ?_
  refine LJ.nil ?_
  refine CJ.ret ?_
  refine Fin.V (Res.one (ResV.tmp (v := .int _ _) rfl)) ?_
  rfl
end Go.Proofs.Ytlpjienaennmaaa
