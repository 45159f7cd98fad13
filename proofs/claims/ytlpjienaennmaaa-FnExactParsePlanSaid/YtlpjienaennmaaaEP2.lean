/-
  Marks in plans.
-/
import Derived.Test.YtlpjienaennmaaaEP1
namespace Go.Proofs.Ytlpjienaennmaaa
open Go
set_option maxRecDepth 20000
set_option maxHeartbeats 1000000

theorem CJ.openE {P : Program} {n : Nat} {c : Go.Code} {ρ : Env} {A : Amb} {fs : List HProp} {Q : EPost} {ι : Type} {φ : ι → Prop} {gs : ι → List HProp} (a b : List Nat) (h : permF (a ++ b) fs = true) (f : ∀ m, Sts (pickF fs b) m → ∃ x, φ x ∧ Sts (gs x) m)
    (k : ∀ x, φ x → CJ P n c ρ A (pickF fs a ++ gs x) Q) : CJ P n c ρ A fs Q := ⟨fun y w r s => by
  obtain ⟨ok, m, z, l, d⟩ := s.perm (perm_pickF fs a b h)
  obtain ⟨h1, h2, y1, y2, dj, l1, l2⟩ := z.split
  obtain ⟨x, hx, y3⟩ := f _ y2
  exact (k x hx).go y w r ⟨ok, m, Sts.join y1 y3 dj l1 l2, l, d⟩⟩
theorem CJ.openPl {P : Program} {n : Nat} {c : Go.Code} {ρ : Env} {A : Amb} {fs : List HProp} {Q : EPost} {u : PE} {q : Plan} (a b : List Nat) (h : permF (a ++ b) fs = true) (hb : pickF fs b = [fun h => PlO h u q])
    (k : ∀ ps : List (PE × Plan), q = .mk u.o u.a u.p u.t (ps.map Prod.snd) → u.n = ps.length → ps.length ≤ 281474976710656 → CJ P n c ρ A (pickF fs a ++ [LR encE 28 5 u.x u.c ps, INN plf ps]) Q) : CJ P n c ρ A fs Q :=
  CJ.openE (ι := List (PE × Plan)) (φ := fun ps => q = .mk u.o u.a u.p u.t (ps.map Prod.snd) ∧ u.n = ps.length ∧ ps.length ≤ 281474976710656) (gs := fun ps => [LR encE 28 5 u.x u.c ps, INN plf ps]) a b h
    (fun m s => by rw [hb] at s; obtain ⟨ps, h1, h2, h3, h4⟩ := PlO.unfold m s; exact ⟨ps, ⟨h1, h2, h3⟩, h4⟩) fun ps ⟨h1, h2, h3⟩ => k ps h1 h2 h3
theorem ndss_take {ps : List (PE × Plan)} {k : Nat} {u : PE × Plan} (h : ps[k]? = some u) : ndss ((ps.take (k + 1)).map Prod.snd) = ndss ((ps.take k).map Prod.snd) + 1 + nds u.2 := by
  rw [takeC h, List.map_append, ndss_append]; simp only [List.map_cons, List.map_nil, ndss]; omega
theorem ndss_take_le (ps : List (PE × Plan)) (k : Nat) : 0 ≤ ndss ((ps.take k).map Prod.snd) ∧ ndss ((ps.take k).map Prod.snd) ≤ ndss (ps.map Prod.snd) := by
  refine ⟨ndss_nonneg _, ?_⟩
  have h : ps.map Prod.snd = (ps.take k).map Prod.snd ++ (ps.drop k).map Prod.snd := by rw [← List.map_append, List.take_append_drop]
  have := ndss_nonneg ((ps.drop k).map Prod.snd)
  rw [h, ndss_append]; omega
theorem sz_kids {ps : List (PE × Plan)} {k : Nat} {u : PE × Plan} (hu : ps[k]? = some u) {N : Nat} (h : SizeOf.sizeOf (ps.map Prod.snd) < N + 1) {o a p : Int} {t : Bool} {qs : List Plan} (e : u.2 = .mk o a p t qs) : SizeOf.sizeOf qs < N := by
  have h1 := List.sizeOf_lt_of_mem (List.mem_map_of_mem (f := Prod.snd) (List.mem_of_getElem? hu))
  rw [e] at h1
  simp only [Plan.mk.sizeOf_spec] at h1
  omega
theorem markPlanS_ok' (N : Nat) : ∀ (qs : List Plan), SizeOf.sizeOf qs < N → ∀ (ps : List (PE × Plan)) (A : Amb) (x : Option Addr) (m c : Nat) (k0 : Int), ps.map Prod.snd = qs → m = ps.length → 0 ≤ k0 → k0 ≤ 20000000 → ndss qs ≤ 1048576 → k0 + 4 * ndss qs ≤ 20000000 →
    Ctr Try.prog 73 #[.slice x m c, vI k0] A [LR encE 28 5 x c ps, INN plf ps] (Val (vI (k0 + 4 * ndss qs))) := by
  induction N with
  | zero => intro q h; omega
  | succ N ih =>
  intro qs hN ps A x m c k0 e hm h0 h1 h2 h3
  subst hm
  have hpl := ndss_len (ps.map Prod.snd)
  rw [List.length_map] at hpl
  rw [← e] at h2 h3 hN ⊢
  refine Ctr.body (args := [_, _]) Try.func73 rfl Try.ntmps73 Try.results73 (by simp) ?_
  refine CJ.seq ?_
  refine CJ.region ?_
  refine LJ.yd rfl (Yd.asI rfl) ?_
  refine LJ.nil ?_
  refine CJ.seq ?_
  refine CJ.seq ?_
  refine CJ.region ?_
  refine LJ.yd rfl (Yd.asI rfl) ?_
  refine LJ.nil ?_
  refine CJ.block ?_
  refine CJ.loopF [0, 4] (Nat × Int × List (PE × Plan)) (fun ⟨k, y, L⟩ => k ≤ ps.length ∧ y = k0 + 4 * ndss ((ps.take k).map Prod.snd) ∧ L.length = ps.length ∧ ∀ j, k ≤ j → L[j]? = ps[j]?) (fun ⟨k, y, L⟩ => [(5, vI k), (1, vI y)]) (fun ⟨k, y, L⟩ => [LR encE 28 5 x c L, INN plf (ps.drop k)]) (fun ⟨k, y, L⟩ => ps.length - k) (0, k0, ps) [] [] [0, 1] rfl rfl rfl ?_ ⟨rfl, rfl, trivial⟩ ?_
  · exact ⟨by omega, by simp [ndss], rfl, fun _ _ => rfl⟩
  · rintro ⟨k, y, L⟩ σ ⟨hk1, hy, hL, hLj⟩
    refine CJ.norm [_, _] rfl ?_
    refine CJ.seq ?_
    refine CJ.seq ?_
    refine CJ.region ?_
    refine LJ.yd rfl (Yd.mvI rfl) ?_
    refine LJ.yd rfl (Yd.mvS rfl) ?_
    refine LJ.yd rfl (Yd.len rfl) ?_
    refine LJ.splitD rfl (Yd.lss rfl rfl) (fun h9 => ?_) (fun h9 => ?_)
    · refine LJ.nil ?_
      refine CJ.condT rfl ?_
      refine CJ.skip ?_
      refine CJ.seq ?_
      refine CJ.block ?_
      refine CJ.seq ?_
      obtain ⟨u, hu⟩ := someC (l := ps) (j := k) (by omega)
      have hLu : L[k]? = some u := by rw [hLj k (Nat.le_refl _)]; exact hu
      have hnt := ndss_take hu
      have hnb := ndss_take_le ps (k + 1)
      have hnb2 := ndss_take_le ps k
      have hnu := nds_nonneg u.2
      rw [show ps.drop k = u :: ps.drop (k + 1) from dropC hu]
      refine CJ.ent (Ent.pickSts [0] [1] rfl (fun _ s => INN.open (j := 0) rfl s)) ?_
      refine CJ.norm [_, _, _] rfl ?_
      refine CJ.openPl [0, 2] [1] rfl rfl (fun ps2 hz0 hz1 hz2 => ?_)
      refine CJ.norm [_, _, _, _] rfl ?_
      have hsz2 := sz_kids hu hN hz0
      have hn2 : nds u.2 = ndss (ps2.map Prod.snd) := by rw [hz0, nds]
      refine CJ.region ?_
      refine LJ.yd rfl (Yd.mvS rfl) ?_
      refine LJ.yd rfl (Yd.mvI rfl) ?_
      refine LJ.yd rfl (Yd.mvI rfl) ?_
      refine LJ.idxR 0 rfl rfl rfl rfl (by omega) (by first | rfl | omega | (simp; done) | (simp; omega) | (simp [upN_len]; omega) | (simp [idxBy_len]; omega) | (simp [marks_len]; omega) | (simp [upN_len]; done) | (simp [idxBy_len]; done) | (simp [marks_len]; done) | (simp at *; omega)) (by first | rfl | omega | (simp; done) | (simp; omega) | (simp [upN_len]; omega) | (simp [idxBy_len]; omega) | (simp [marks_len]; omega) | (simp [upN_len]; done) | (simp [idxBy_len]; done) | (simp [marks_len]; done) | (simp at *; omega)) (fun ib15 ia15 => ?_)
      refine LJ.yd rfl (Yd.fieldAddr rfl) ?_
      refine LJ.op rfl (OpR.stR (enc := encE) (u' := (⟨y, u.1.a, u.1.p, u.1.t, u.1.x, u.1.n, u.1.c⟩, u.2)) 0 0 rfl ia15 rfl rfl hLu rfl rfl rfl rfl rfl) ?_
      rintro _ _ ⟨rfl, rfl⟩
      refine LJ.norm [_, _, _, _] rfl ?_
      refine LJ.nil ?_
      refine CJ.seq ?_
      refine CJ.region ?_
      refine LJ.yd rfl (Yd.mvI rfl) ?_
      refine LJ.yd rfl (Yd.add rfl rfl (by unfold I64; omega)) ?_
      refine LJ.yd rfl (Yd.asI rfl) ?_
      refine LJ.nil ?_
      refine CJ.seq ?_
      refine CJ.region ?_
      refine LJ.yd rfl (Yd.mvS rfl) ?_
      refine LJ.yd rfl (Yd.mvI rfl) ?_
      refine LJ.yd rfl (Yd.mvI rfl) ?_
      refine LJ.idxR 0 rfl rfl rfl rfl (by omega) (by first | rfl | omega | (simp; done) | (simp; omega) | (simp [upN_len]; omega) | (simp [idxBy_len]; omega) | (simp [marks_len]; omega) | (simp [upN_len]; done) | (simp [idxBy_len]; done) | (simp [marks_len]; done) | (simp at *; omega)) (by first | rfl | omega | (simp; done) | (simp; omega) | (simp [upN_len]; omega) | (simp [idxBy_len]; omega) | (simp [marks_len]; omega) | (simp [upN_len]; done) | (simp [idxBy_len]; done) | (simp [marks_len]; done) | (simp at *; omega)) (fun ib22 ia22 => ?_)
      refine LJ.yd rfl (Yd.fieldAddr rfl) ?_
      refine LJ.op rfl (OpR.stR (enc := encE) (u' := (⟨y, y + 1, u.1.p, u.1.t, u.1.x, u.1.n, u.1.c⟩, u.2)) 0 1 rfl ia22 rfl rfl (List.getElem?_set_self (by first | omega | (simp; omega))) rfl rfl rfl rfl rfl) ?_
      rintro _ _ ⟨rfl, rfl⟩
      refine LJ.norm [_, _, _, _] rfl ?_
      refine LJ.nil ?_
      refine CJ.seq ?_
      refine CJ.region ?_
      refine LJ.yd rfl (Yd.mvI rfl) ?_
      refine LJ.yd rfl (Yd.add rfl rfl (by unfold I64; omega)) ?_
      refine LJ.yd rfl (Yd.asI rfl) ?_
      refine LJ.nil ?_
      refine CJ.seq ?_
      refine CJ.region ?_
      refine LJ.yd rfl (Yd.mvS rfl) ?_
      refine LJ.yd rfl (Yd.mvI rfl) ?_
      refine LJ.yd rfl (Yd.mvI rfl) ?_
      refine LJ.idxR 0 rfl rfl rfl rfl (by omega) (by first | rfl | omega | (simp; done) | (simp; omega) | (simp [upN_len]; omega) | (simp [idxBy_len]; omega) | (simp [marks_len]; omega) | (simp [upN_len]; done) | (simp [idxBy_len]; done) | (simp [marks_len]; done) | (simp at *; omega)) (by first | rfl | omega | (simp; done) | (simp; omega) | (simp [upN_len]; omega) | (simp [idxBy_len]; omega) | (simp [marks_len]; omega) | (simp [upN_len]; done) | (simp [idxBy_len]; done) | (simp [marks_len]; done) | (simp at *; omega)) (fun ib29 ia29 => ?_)
      refine LJ.yd rfl (Yd.fieldAddr rfl) ?_
      refine LJ.op rfl (OpR.stR (enc := encE) (u' := (⟨y, y + 1, y + 1 + 1, u.1.t, u.1.x, u.1.n, u.1.c⟩, u.2)) 0 2 rfl ia29 rfl rfl (List.getElem?_set_self (by first | omega | (simp; omega))) rfl rfl rfl rfl rfl) ?_
      rintro _ _ ⟨rfl, rfl⟩
      refine LJ.norm [_, _, _, _] rfl ?_
      refine LJ.nil ?_
      refine CJ.seq ?_
      refine CJ.region ?_
      refine LJ.yd rfl (Yd.mvI rfl) ?_
      refine LJ.yd rfl (Yd.add rfl rfl (by unfold I64; omega)) ?_
      refine LJ.yd rfl (Yd.asI rfl) ?_
      refine LJ.nil ?_
      refine CJ.seq ?_
      refine CJ.region ?_
      refine LJ.yd rfl (Yd.mvS rfl) ?_
      refine LJ.yd rfl (Yd.mvI rfl) ?_
      refine LJ.yd rfl (Yd.mvI rfl) ?_
      refine LJ.yd rfl (Yd.rem rfl rfl (by omega) (by omega)) ?_
      refine LJ.yd rfl (Yd.eql rfl rfl) ?_
      refine LJ.idxR 0 rfl rfl rfl rfl (by omega) (by first | rfl | omega | (simp; done) | (simp; omega) | (simp [upN_len]; omega) | (simp [idxBy_len]; omega) | (simp [marks_len]; omega) | (simp [upN_len]; done) | (simp [idxBy_len]; done) | (simp [marks_len]; done) | (simp at *; omega)) (by first | rfl | omega | (simp; done) | (simp; omega) | (simp [upN_len]; omega) | (simp [idxBy_len]; omega) | (simp [marks_len]; omega) | (simp [upN_len]; done) | (simp [idxBy_len]; done) | (simp [marks_len]; done) | (simp at *; omega)) (fun ib38 ia38 => ?_)
      refine LJ.yd rfl (Yd.fieldAddr rfl) ?_
      refine LJ.op rfl (OpR.stR (enc := encE) (u' := (⟨y, y + 1, y + 1 + 1, decide ((y + 1 + 1 + 1) % 3 = 0), u.1.x, u.1.n, u.1.c⟩, u.2)) 0 3 rfl ia38 rfl rfl (List.getElem?_set_self (by first | omega | (simp; omega))) rfl rfl rfl rfl rfl) ?_
      rintro _ _ ⟨rfl, rfl⟩
      refine LJ.norm [_, _, _, _] rfl ?_
      refine LJ.nil ?_
      refine CJ.seq ?_
      refine CJ.region ?_
      refine LJ.yd rfl (Yd.mvI rfl) ?_
      refine LJ.yd rfl (Yd.add rfl rfl (by unfold I64; omega)) ?_
      refine LJ.yd rfl (Yd.asI rfl) ?_
      refine LJ.nil ?_
      refine CJ.region ?_
      refine LJ.yd rfl (Yd.mvS rfl) ?_
      refine LJ.yd rfl (Yd.mvI rfl) ?_
      refine LJ.idxR 0 rfl rfl rfl rfl (by omega) (by first | rfl | omega | (simp; done) | (simp; omega) | (simp [upN_len]; omega) | (simp [idxBy_len]; omega) | (simp [marks_len]; omega) | (simp [upN_len]; done) | (simp [idxBy_len]; done) | (simp [marks_len]; done) | (simp at *; omega)) (by first | rfl | omega | (simp; done) | (simp; omega) | (simp [upN_len]; omega) | (simp [idxBy_len]; omega) | (simp [marks_len]; omega) | (simp [upN_len]; done) | (simp [idxBy_len]; done) | (simp [marks_len]; done) | (simp at *; omega)) (fun ib44 ia44 => ?_)
      refine LJ.yd rfl (Yd.fieldAddr rfl) ?_
      refine LJ.ldR 0 4 (fun u => .slice u.1.x u.1.n u.1.c) (fun _ => rfl) rfl ia44 rfl rfl rfl (by first | rfl | omega | (simp; done) | (simp; omega) | (simp [upN_len]; omega) | (simp [idxBy_len]; omega) | (simp [marks_len]; omega) | (simp [upN_len]; done) | (simp [idxBy_len]; done) | (simp [marks_len]; done) | (simp at *; omega)) (fun u46 hu46 => ?_)
      try simp only [Int.toNat_natCast] at hu46
      rw [List.getElem?_set_self (by simp; omega)] at hu46
      obtain rfl := Option.some.inj hu46
      refine LJ.yd rfl (Yd.mvI rfl) ?_
      refine LJ.call (pickF _ [0, 1]) (pickF _ [2, 3]) rfl (perm_pickF _ [0, 1] [2, 3] rfl) (fun k hk dk => ih _ hsz2 ps2 _ _ _ _ _ rfl hz1 (by omega) (by omega) (by omega) (by omega)) ?_
      rintro _ _ ⟨rfl, rfl⟩
      refine LJ.norm [_, _] rfl ?_
      refine LJ.yd rfl (Yd.asI rfl) ?_
      refine LJ.nil ?_
      refine CJ.region ?_
      refine LJ.yd rfl (Yd.mvI rfl) ?_
      refine LJ.yd rfl (Yd.add rfl rfl (by unfold I64; omega)) ?_
      refine LJ.yd rfl (Yd.asI rfl) ?_
      refine LJ.nil ?_
      refine ⟨(k + 1, _, _), ?_, ⟨rfl, rfl, trivial⟩, ⟨rfl, rfl, trivial⟩, Ent.refl _, ?_⟩
      · refine ⟨by omega, ?_⟩
        exact ⟨by omega, by simp [hL], fun j hj => by rw [List.getElem?_set_ne (by omega), List.getElem?_set_ne (by omega), List.getElem?_set_ne (by omega), List.getElem?_set_ne (by omega)]; exact hLj j (by omega)⟩
      · first | omega | (dsimp only; omega) | (simp only []; omega)
    · refine LJ.nil ?_
      refine CJ.condF rfl ?_
      refine CJ.exit ?_
      refine CJ.seq ?_
      refine CJ.region ?_
      refine LJ.yd rfl (Yd.mvI rfl) ?_
      refine LJ.yd rfl (Yd.asI rfl) ?_
      refine LJ.nil ?_
      refine CJ.ret ?_
      refine Fin.V (Res.one (ResV.tmp (v := .int _ _) rfl)) ?_
      rw [hy, List.take_of_length_le (by omega)]
theorem markPlan_ok {A : Amb} {u : PE} {q : Plan} {k0 : Int} (h0 : 0 ≤ k0) (h1 : k0 ≤ 10000000) (hn : nds q ≤ 1048576) : Ctr Try.prog 35 #[.agg (encP u).toArray, vI k0] A [fun h => PlO h u q] (Val (vI (k0 + 4 * nds q))) := by
  have hnn := nds_nonneg q
  refine Ctr.body (args := [_, _]) Try.func35 rfl Try.ntmps35 Try.results35 (by simp) ?_
  refine CJ.seq ?_
  refine CJ.region ?_
  refine LJ.boxG (vs := [_, _, _, _, _]) rfl rfl (fun b1 => ?_)
  refine LJ.yd rfl (Yd.asI rfl) ?_
  refine LJ.nil ?_
  refine CJ.seq ?_
  refine CJ.openPl [1] [0] rfl rfl (fun ps2 hz0 hz1 hz2 => ?_)
  refine CJ.norm [_, _, _] rfl ?_
  have hn2 : nds q = ndss (ps2.map Prod.snd) := by rw [hz0, nds]
  refine CJ.region ?_
  refine LJ.yd rfl (Yd.fieldAddr rfl) ?_
  refine LJ.yd rfl (Yd.loadC 0 rfl rfl rfl) ?_
  refine LJ.yd rfl (Yd.mvI rfl) ?_
  refine LJ.call (pickF _ [0]) (pickF _ [1, 2]) rfl (perm_pickF _ [0] [1, 2] rfl) (fun k hk dk => markPlanS_ok' _ _ (Nat.lt_succ_self _) ps2 _ _ _ _ _ rfl hz1 (by omega) (by omega) (by omega) (by omega)) ?_
  rintro _ _ ⟨rfl, rfl⟩
  refine LJ.norm [_] rfl ?_
  refine LJ.yd rfl (Yd.asI rfl) ?_
  refine LJ.nil ?_
  refine CJ.seq ?_
  refine CJ.region ?_
  refine LJ.yd rfl (Yd.mvI rfl) ?_
  refine LJ.yd rfl (Yd.asI rfl) ?_
  refine LJ.nil ?_
  refine CJ.ret ?_
  refine Fin.V (Res.one (ResV.tmp (v := .int _ _) rfl)) ?_
  rw [hn2]
end Go.Proofs.Ytlpjienaennmaaa
