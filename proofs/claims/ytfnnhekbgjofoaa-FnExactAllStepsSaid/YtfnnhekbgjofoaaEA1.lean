/-
  The exact law on all orders of cuts.
-/
import Derived.Test.YtfnnhekbgjofoaaK14
import Derived.Test.YtfnnhekbgjofoaaEP2
import Derived.Test.YtfnnhekbgjofoaaA7
namespace Go.Proofs.Ytfnnhekbgjofoaa
open Go
set_option maxRecDepth 20000
set_option maxHeartbeats 1000000

theorem eqIntS_e {A : Amb} {v w : Value} {l l2 : List Int} (e : l = l2) (hl : RdL encI 1 A.h v l) (hl2 : RdL encI 1 A.h w l2) : Ctr Try.prog 41 #[v, w] A [] (Val (.bool true)) := by
  have := eqIntS_ok hl hl2
  rwa [decide_eq_true e] at this
theorem eqIntSS_T {A : Amb} {v w : Value} {X Y : List (Rw Int)} (hl : RdL encR 1 A.h v X) (hl2 : RdL encR 1 A.h w Y) (hx : ∀ u ∈ X, RdL encI 1 A.h (.slice u.a u.l.length u.c) u.l) (hy : ∀ u ∈ Y, RdL encI 1 A.h (.slice u.a u.l.length u.c) u.l) (e : X.map Rw.l = Y.map Rw.l) :
    Ctr Try.prog 47 #[v, w] A [] (Val (.bool true)) := by
  obtain ⟨la, lc, rfl, hlb, hl⟩ := hl.un
  obtain ⟨la2, lc2, rfl, hlb2, hl2⟩ := hl2.un
  have hlen := congrArg List.length e
  rw [List.length_map, List.length_map] at hlen
  refine Ctr.body (args := [_, _]) Try.func47 rfl Try.ntmps47 Try.results47 (by simp) ?_
  refine CJ.seq ?_
  refine CJ.region ?_
  refine LJ.yd rfl (Yd.asB rfl) ?_
  refine LJ.nil ?_
  refine CJ.seq ?_
  refine CJ.seq ?_
  refine CJ.region ?_
  refine LJ.yd rfl (Yd.mvS rfl) ?_
  refine LJ.yd rfl (Yd.len rfl) ?_
  refine LJ.yd rfl (Yd.mvS rfl) ?_
  refine LJ.yd rfl (Yd.len rfl) ?_
  refine LJ.splitN rfl (Yd.neq rfl rfl) (fun h10 => ?_) (fun h10 => ?_)
  · exfalso; omega
  · refine LJ.nil ?_
    refine CJ.condF rfl ?_
    refine CJ.skip ?_
    refine CJ.seq ?_
    refine CJ.seq ?_
    refine CJ.region ?_
    refine LJ.yd rfl (Yd.asI rfl) ?_
    refine LJ.nil ?_
    refine CJ.block ?_
    refine CJ.loopK [0, 1] Nat (fun k => k ≤ X.length) (fun k => [(5, vI k)]) (fun k => X.length - k) (0) ?_ ⟨rfl, trivial⟩ ?_
    · exact by omega
    · rintro k σ hk1
      refine CJ.seq ?_
      refine CJ.seq ?_
      refine CJ.region ?_
      refine LJ.yd rfl (Yd.mvI rfl) ?_
      refine LJ.yd rfl (Yd.mvS rfl) ?_
      refine LJ.yd rfl (Yd.len rfl) ?_
      refine LJ.splitD rfl (Yd.lss rfl rfl) (fun h14 => ?_) (fun h14 => ?_)
      · refine LJ.nil ?_
        refine CJ.condT rfl ?_
        refine CJ.skip ?_
        refine CJ.seq ?_
        refine CJ.block ?_
        refine CJ.seq ?_
        refine CJ.regionD [] [] (by kernel_rfl) rfl ?_
        refine DJ.norm [] [] rfl rfl ?_
        refine DJ.yd 0 rfl (by kernel_rfl) (by kernel_rfl) (by kernel_rfl) rfl rfl (Yd.mvS rfl) ?_
        refine DJ.yd 1 rfl (by kernel_rfl) (by kernel_rfl) (by kernel_rfl) rfl rfl (Yd.mvI rfl) ?_
        refine DJ.idxA 2 rfl (by kernel_rfl) (by kernel_rfl) (by kernel_rfl) rfl rfl hl rfl rfl (by omega) (by first | rfl | omega | (simp; done) | (simp; omega) | (simp [upN_len]; omega) | (simp [idxBy_len]; omega) | (simp [marks_len]; omega) | (simp [upN_len]; done) | (simp [idxBy_len]; done) | (simp [marks_len]; done) | (simp at *; omega)) (fun ib19 io19 ia19 ir19 => ?_)
        refine DJ.ldA 3 rfl (by kernel_rfl) (by kernel_rfl) (by kernel_rfl) rfl rfl 0 (fun u => .slice u.a u.l.length u.c) (fun _ => rfl) ir19 rfl rfl (by first | rfl | omega | (simp; done) | (simp; omega) | (simp [upN_len]; omega) | (simp [idxBy_len]; omega) | (simp [marks_len]; omega) | (simp [upN_len]; done) | (simp [idxBy_len]; done) | (simp [marks_len]; done) | (simp at *; omega)) (fun u20 hu20 => ?_)
        try simp only [Int.toNat_natCast] at hu20
        refine DJ.yd 4 rfl (by kernel_rfl) (by kernel_rfl) (by kernel_rfl) rfl rfl (Yd.mvS rfl) ?_
        refine DJ.yd 5 rfl (by kernel_rfl) (by kernel_rfl) (by kernel_rfl) rfl rfl (Yd.mvI rfl) ?_
        refine DJ.idxA 6 rfl (by kernel_rfl) (by kernel_rfl) (by kernel_rfl) rfl rfl hl2 rfl rfl (by omega) (by first | rfl | omega | (simp; done) | (simp; omega) | (simp [upN_len]; omega) | (simp [idxBy_len]; omega) | (simp [marks_len]; omega) | (simp [upN_len]; done) | (simp [idxBy_len]; done) | (simp [marks_len]; done) | (simp at *; omega)) (fun ib23 io23 ia23 ir23 => ?_)
        refine DJ.ldA 7 rfl (by kernel_rfl) (by kernel_rfl) (by kernel_rfl) rfl rfl 0 (fun u => .slice u.a u.l.length u.c) (fun _ => rfl) ir23 rfl rfl (by first | rfl | omega | (simp; done) | (simp; omega) | (simp [upN_len]; omega) | (simp [idxBy_len]; omega) | (simp [marks_len]; omega) | (simp [upN_len]; done) | (simp [idxBy_len]; done) | (simp [marks_len]; done) | (simp at *; omega)) (fun u24 hu24 => ?_)
        try simp only [Int.toNat_natCast] at hu24
        have h24 : u20.l = u24.l := by
          have := congrArg (fun l => l[k]?) e
          simp only [List.getElem?_map, hu20, hu24, Option.map_some, Option.some.injEq] at this
          exact this
        refine DJ.one (i := 8) (by kernel_rfl) ?_
        refine DO.callV rfl rfl rfl (fun k0 hk0 dk0 k hk dk => eqIntS_e h24 (RdRow.up (hx u20 (List.mem_of_getElem? hu20))) (RdRow.up (hy u24 (List.mem_of_getElem? hu24)))) ?_
        refine DJ.yd 9 rfl (by kernel_rfl) (by kernel_rfl) (by kernel_rfl) rfl rfl (Yd.not rfl) ?_
        refine DJ.done (by kernel_rfl) ?_
        refine CJ.condF rfl ?_
        refine CJ.skip ?_
        refine CJ.region ?_
        refine LJ.yd rfl (Yd.mvI rfl) ?_
        refine LJ.yd rfl (Yd.add rfl rfl (by unfold I64; omega)) ?_
        refine LJ.yd rfl (Yd.asI rfl) ?_
        refine LJ.nil ?_
        refine ⟨(k + 1), ?_, ⟨rfl, rfl, trivial⟩, ⟨rfl, trivial⟩, Ent.refl _, ?_⟩
        · omega
        · first | omega | (dsimp only; omega) | (simp only []; omega)
      · refine LJ.nil ?_
        refine CJ.condF rfl ?_
        refine CJ.exit ?_
        refine CJ.seq ?_
        refine CJ.region ?_
        refine LJ.yd rfl (Yd.asB rfl) ?_
        refine LJ.nil ?_
        refine CJ.ret ?_
        refine Fin.V (Res.one (ResV.tmp (v := .bool true) rfl)) ?_
        rfl
/-- numbers in lists of lists that ascend from k on -/
def mkT : List (List Int) → Int
  | [] => 0
  | l :: r => l.length + mkT r
def mkR : Int → List (List Int) → List (List Int)
  | _, [] => []
  | k, l :: r => marks k l.length :: mkR (k + l.length) r
theorem mkT_nonneg : ∀ L : List (List Int), 0 ≤ mkT L
  | [] => Int.le_refl _
  | l :: r => by have := mkT_nonneg r; rw [mkT]; omega
theorem mkT_le {L : List (List Int)} (h : ∀ l ∈ L, l.length ≤ 5) : mkT L ≤ 5 * L.length := by
  induction L with
  | nil => simp [mkT]
  | cons p r ih =>
    have h1 := ih fun q hq => h q (by simp [hq])
    have h2 := h p (by simp)
    simp only [mkT, List.length_cons]; omega
theorem mkR_len : ∀ {L : List (List Int)} {k : Int}, (mkR k L).length = L.length
  | [], _ => rfl
  | p :: r, k => by simp [mkR, mkR_len (L := r)]
theorem mkT_snoc {p : List Int} : ∀ {L : List (List Int)}, mkT (L ++ [p]) = mkT L + p.length
  | [] => by simp [mkT]
  | q :: r => by
    rw [List.cons_append, mkT, mkT_snoc (L := r), mkT]; omega
theorem mkR_snoc {p : List Int} : ∀ {L : List (List Int)} {k : Int}, mkR k (L ++ [p]) = mkR k L ++ [marks (k + mkT L) p.length]
  | [], k => by simp [mkR, mkT]
  | q :: r, k => by
    rw [List.cons_append, mkR, mkR_snoc (L := r), mkR, mkT, List.cons_append]
    congr 4; omega
theorem mkR_at : ∀ {L : List (List Int)} {k : Int} {j : Nat} {p q : List Int}, L[j]? = some p → (mkR k L)[j]? = some q → q = marks (k + mkT (L.take j)) p.length
  | x :: r, k, 0, p, q, h1, h2 => by
    simp only [mkR, List.getElem?_cons_zero, Option.some.injEq] at h1 h2
    subst h1 h2; simp [mkT]
  | x :: r, k, j + 1, p, q, h1, h2 => by
    simp only [mkR, List.getElem?_cons_succ] at h1 h2
    rw [mkR_at h1 h2, List.take_succ_cons, mkT]
    congr 1; omega
theorem set_at {α : Type} {P Q : List α} {x y : α} {k : Nat} (h : P.length = k) : (P ++ x :: Q).set k y = P ++ y :: Q := by
  subst h; simp
theorem mkT_step {X : List (Rw Int)} {k : Nat} {u : Rw Int} (h : X[k]? = some u) : mkT ((X.take (k + 1)).map Rw.l) = mkT ((X.take k).map Rw.l) + u.l.length := by
  rw [takeC h, List.map_append, List.map_cons, List.map_nil, mkT_snoc]
theorem mkR_step {L Y : List (Rw Int)} {k : Nat} {k0 : Int} {u : Rw Int} {a : Option Addr} {c : Nat} (hL : L.map Rw.l = mkR k0 ((Y.take k).map Rw.l) ++ (Y.drop k).map Rw.l) (hu : Y[k]? = some u) :
    (L.set k ⟨a, c, marks (k0 + mkT ((Y.take k).map Rw.l)) u.l.length⟩).map Rw.l = mkR k0 ((Y.take (k + 1)).map Rw.l) ++ (Y.drop (k + 1)).map Rw.l := by
  have hk := (List.getElem?_eq_some_iff.1 hu).1
  rw [List.map_set, hL, dropC hu, List.map_cons, set_at (by rw [mkR_len, List.length_map, List.length_take]; omega), takeC hu, List.map_append, List.map_cons, List.map_nil, mkR_snoc, List.append_assoc]
  rfl
theorem LR.setR {α : Type} {E : TypeId} {a : Option Addr} {c j : Nat} {X : List (Rw α)} {u : Rw α} {l' : List α} {h : Hp} (hu : X[j]? = some u) (hl : l'.length = u.l.length) (r : LR encR E 1 a c X h) : LR encR E 1 a c (X.set j ⟨u.a, u.c, l'⟩) h := by
  have e : (X.set j ⟨u.a, u.c, l'⟩).map encR = X.map encR := by
    rw [List.map_set]
    refine List.ext_getElem? fun i => ?_
    by_cases e : j = i
    · subst e
      have hj := (List.getElem?_eq_some_iff.1 hu).1
      rw [List.getElem?_set_self (by rw [List.length_map]; exact hj), List.getElem?_map, hu]; simp [encR, hl]
    · rw [List.getElem?_set_ne e]
  show Row E 1 a c _ h
  rw [e]; exact r
theorem markIntSS_ok {A : Amb} {a : Option Addr} {m c : Nat} {Y : List (Rw Int)} {k0 : Int} (hm : m = Y.length) (h0 : 0 ≤ k0) (h1 : k0 ≤ 1000) (hn : Y.length ≤ 1000000) (hb : ∀ u ∈ Y, u.l.length ≤ 5) :
    Ctr Try.prog 48 #[.slice a m c, vI k0] A [LR encR 30 1 a c Y, INN (rowOf encI 3 1) Y] (fun v gs => ∃ Y2 : List (Rw Int), v = vI (k0 + mkT (Y.map Rw.l)) ∧ gs = [LR encR 30 1 a c Y2, INN (rowOf encI 3 1) Y2] ∧ Y2.map Rw.l = mkR k0 (Y.map Rw.l) ∧ Y2.length = Y.length) := by
  subst hm
  refine Ctr.body (args := [_, _]) Try.func48 rfl Try.ntmps48 Try.results48 (by simp) ?_
  refine CJ.seq ?_
  refine CJ.region ?_
  refine LJ.yd rfl (Yd.asI rfl) ?_
  refine LJ.nil ?_
  refine CJ.seq ?_
  refine CJ.seq ?_
  refine CJ.region ?_
  refine LJ.yd rfl (Yd.asI rfl) ?_
  refine LJ.nil ?_
  refine CJ.block ?_
  refine CJ.loopF [0, 4] (Nat × Int × List (Rw Int)) (fun ⟨k, y, L⟩ => k ≤ Y.length ∧ y = k0 + mkT ((Y.take k).map Rw.l) ∧ L.length = Y.length ∧ L.map Rw.l = mkR k0 ((Y.take k).map Rw.l) ++ (Y.drop k).map Rw.l ∧ ∀ j, k ≤ j → L[j]? = Y[j]?) (fun ⟨k, y, L⟩ => [(5, vI k), (1, vI y)]) (fun ⟨k, y, L⟩ => [LR encR 30 1 a c L, INN (rowOf encI 3 1) L]) (fun ⟨k, y, L⟩ => Y.length - k) (0, k0, Y) [] [] [0, 1] rfl rfl rfl ?_ ⟨rfl, rfl, trivial⟩ ?_
  · exact ⟨by omega, by simp [mkT], rfl, by simp [mkR], fun _ _ => rfl⟩
  · rintro ⟨k, y, L⟩ σ ⟨hk1, hy, hLl, hL, hLj⟩
    refine CJ.norm [_, _] rfl ?_
    refine CJ.seq ?_
    refine CJ.seq ?_
    refine CJ.region ?_
    refine LJ.yd rfl (Yd.mvI rfl) ?_
    refine LJ.yd rfl (Yd.mvS rfl) ?_
    refine LJ.yd rfl (Yd.len rfl) ?_
    refine LJ.splitD rfl (Yd.lss rfl rfl) (fun h9 => ?_) (fun h9 => ?_)
    · refine LJ.nil ?_
      refine CJ.condT rfl ?_
      refine CJ.skip ?_
      refine CJ.seq ?_
      refine CJ.block ?_
      refine CJ.region ?_
      refine LJ.yd rfl (Yd.mvS rfl) ?_
      refine LJ.yd rfl (Yd.mvI rfl) ?_
      refine LJ.idxR 0 rfl rfl rfl rfl (by omega) (by first | rfl | omega | (simp; done) | (simp; omega) | (simp [upN_len]; omega) | (simp [idxBy_len]; omega) | (simp [marks_len]; omega) | (simp [upN_len]; done) | (simp [idxBy_len]; done) | (simp [marks_len]; done) | (simp at *; omega)) (by first | rfl | omega | (simp; done) | (simp; omega) | (simp [upN_len]; omega) | (simp [idxBy_len]; omega) | (simp [marks_len]; omega) | (simp [upN_len]; done) | (simp [idxBy_len]; done) | (simp [marks_len]; done) | (simp at *; omega)) (fun ib14 ia14 => ?_)
      refine LJ.ldR 0 0 (fun u => .slice u.a u.l.length u.c) (fun _ => rfl) rfl ia14 rfl rfl rfl (by first | rfl | omega | (simp; done) | (simp; omega) | (simp [upN_len]; omega) | (simp [idxBy_len]; omega) | (simp [marks_len]; omega) | (simp [upN_len]; done) | (simp [idxBy_len]; done) | (simp [marks_len]; done) | (simp at *; omega)) (fun u15 hu15 => ?_)
      try simp only [Int.toNat_natCast] at hu15
      refine LJ.ent (Ent.pickSts [0] [1] rfl (fun _ s => INN.open hu15 s)) ?_
      refine LJ.norm [_, _, _] rfl ?_
      have hYu : Y[k]? = some u15 := by rw [← hLj k (Nat.le_refl _)]; exact hu15
      have hub := hb u15 (List.mem_of_getElem? hYu)
      have hNs := mkT_step hYu
      have hN0 := mkT_nonneg ((Y.take k).map Rw.l)
      have hN1 := mkT_le (L := (Y.take k).map Rw.l) (fun p hp => by obtain ⟨z, hz, rfl⟩ := List.mem_map.1 hp; exact hb z (List.mem_of_mem_take hz))
      rw [List.length_map, List.length_take, Nat.min_eq_left (by omega)] at hN1
      refine LJ.yd rfl (Yd.mvI rfl) ?_
      refine LJ.call (pickF _ [0, 2]) (pickF _ [1]) rfl (perm_pickF _ [0, 2] [1] rfl) (fun k hk dk => markIntS_ok rfl (by omega) (by omega) (by omega)) ?_
      rintro _ _ ⟨rfl, rfl⟩
      refine LJ.norm [_, _, _] rfl ?_
      refine LJ.yd rfl (Yd.asI rfl) ?_
      refine LJ.nil ?_
      refine CJ.ent (Ent.pickFold [0] [2, 1] [] rfl (fun _ s => INN.close (f := rowOf encI 3 1) (xs := L) (j := k) (v := (⟨u15.a, u15.c, marks y u15.l.length⟩ : Rw Int)) (by omega) s)) ?_
      refine CJ.norm [_, _] rfl ?_
      refine CJ.imp1 (G := LR encR 30 1 a c (L.set k ⟨u15.a, u15.c, marks y u15.l.length⟩)) 0 rfl (fun _ r => LR.setR hu15 (marks_len ..) r) ?_
      refine CJ.norm [_, _] rfl ?_
      refine CJ.region ?_
      refine LJ.yd rfl (Yd.mvI rfl) ?_
      refine LJ.yd rfl (Yd.add rfl rfl (by unfold I64; omega)) ?_
      refine LJ.yd rfl (Yd.asI rfl) ?_
      refine LJ.nil ?_
      refine ⟨(k + 1, y + u15.l.length, L.set k ⟨u15.a, u15.c, marks y u15.l.length⟩), ?_, ⟨rfl, rfl, trivial⟩, ⟨rfl, rfl, trivial⟩, Ent.refl _, ?_⟩
      · refine ⟨by omega, ?_⟩
        refine ⟨by rw [mkT_step hYu, hy]; omega, by simp [hLl], ?_, fun j hj => by rw [List.getElem?_set_ne (by omega)]; exact hLj j (by omega)⟩
        rw [hy]
        exact mkR_step hL hYu
      · first | omega | (dsimp only; omega) | (simp only []; omega)
    · refine LJ.nil ?_
      refine CJ.condF rfl ?_
      refine CJ.exit ?_
      refine CJ.seq ?_
      refine CJ.region ?_
      refine LJ.yd rfl (Yd.mvI rfl) ?_
      refine LJ.yd rfl (Yd.asI rfl) ?_
      refine LJ.nil ?_
      refine CJ.ret ?_
      obtain rfl : k = Y.length := by omega
      rw [List.take_of_length_le (Nat.le_refl _)] at hy hL
      rw [List.drop_of_length_le (Nat.le_refl _)] at hL
      rw [← hy]
      exact Fin.R [_, _] (Res.one (ResV.tmp (v := .int _ _) rfl)) ⟨L, rfl, rfl, by rw [hL]; simp, hLl⟩ (Ent.pick [0, 1] [] rfl)
theorem heldIntS_e {A : Amb} {v : Value} {n : Nat} {k0 : Int} {l : List Int} (hl : RdL encI 1 A.h v l) (e : l = marks k0 n) (hn : n ≤ 2000000) (h0 : 0 ≤ k0) (h1 : k0 ≤ 10000000) : Ctr Try.prog 45 #[v, vI k0] A [] (Val (vI (k0 + n))) := by
  subst e; exact heldIntS_ok hl hn h0 h1
theorem heldIntSS_ok {A : Amb} {v : Value} {Y : List (Rw Int)} {P : List (List Int)} {k0 : Int} (hl : RdL encR 1 A.h v Y) (hx : ∀ u ∈ Y, RdL encI 1 A.h (.slice u.a u.l.length u.c) u.l) (e : Y.map Rw.l = mkR k0 P) (h0 : 0 ≤ k0) (h1 : k0 ≤ 1000) (hn : P.length ≤ 1000000) (hb : ∀ p ∈ P, p.length ≤ 5) : Ctr Try.prog 49 #[v, vI k0] A [] (Val (vI (k0 + mkT P))) := by
  obtain ⟨la, lc, rfl, hlb, hl⟩ := hl.un
  have eYl : Y.length = P.length := by have := congrArg List.length e; rwa [List.length_map, mkR_len] at this
  have hat : ∀ (k : Nat) (u : Rw Int), Y[k]? = some u → ∃ p, P[k]? = some p ∧ u.l = marks (k0 + mkT (P.take k)) p.length := fun k u hu => by
    have h1 : (Y.map Rw.l)[k]? = some u.l := by rw [List.getElem?_map, hu]; rfl
    rw [e] at h1
    obtain ⟨p, hp⟩ := someC (l := P) (j := k) (by have := (List.getElem?_eq_some_iff.1 hu).1; omega)
    exact ⟨p, hp, mkR_at hp h1⟩
  refine Ctr.body (args := [_, _]) Try.func49 rfl Try.ntmps49 Try.results49 (by simp) ?_
  refine CJ.seq ?_
  refine CJ.region ?_
  refine LJ.yd rfl (Yd.asI rfl) ?_
  refine LJ.nil ?_
  refine CJ.seq ?_
  refine CJ.seq ?_
  refine CJ.region ?_
  refine LJ.yd rfl (Yd.asI rfl) ?_
  refine LJ.nil ?_
  refine CJ.block ?_
  refine CJ.loopK [0] (Nat × Int) (fun ⟨k, y⟩ => k ≤ Y.length ∧ y = k0 + mkT (P.take k)) (fun ⟨k, y⟩ => [(5, vI k), (1, vI y)]) (fun ⟨k, y⟩ => Y.length - k) (0, k0) ?_ ⟨rfl, rfl, trivial⟩ ?_
  · exact ⟨by omega, by simp [mkT]⟩
  · rintro ⟨k, y⟩ σ ⟨hk1, hy⟩
    have hN0 := mkT_nonneg (P.take k)
    have hN1 := mkT_le (L := P.take k) (fun p hp => hb p (List.mem_of_mem_take hp))
    rw [List.length_take, Nat.min_eq_left (by omega)] at hN1
    refine CJ.seq ?_
    refine CJ.seq ?_
    refine CJ.region ?_
    refine LJ.yd rfl (Yd.mvI rfl) ?_
    refine LJ.yd rfl (Yd.mvS rfl) ?_
    refine LJ.yd rfl (Yd.len rfl) ?_
    refine LJ.splitD rfl (Yd.lss rfl rfl) (fun h9 => ?_) (fun h9 => ?_)
    · refine LJ.nil ?_
      refine CJ.condT rfl ?_
      refine CJ.skip ?_
      refine CJ.seq ?_
      refine CJ.block ?_
      refine CJ.seq ?_
      refine CJ.region ?_
      refine LJ.yd rfl (Yd.mvS rfl) ?_
      refine LJ.yd rfl (Yd.mvI rfl) ?_
      refine LJ.idxA rfl hl rfl rfl (by omega) (by first | rfl | omega | (simp; done) | (simp; omega) | (simp [upN_len]; omega) | (simp [idxBy_len]; omega) | (simp [marks_len]; omega) | (simp [upN_len]; done) | (simp [idxBy_len]; done) | (simp [marks_len]; done) | (simp at *; omega)) (fun ib14 io14 ia14 ir14 => ?_)
      refine LJ.ldA 0 (fun u => .slice u.a u.l.length u.c) (fun _ => rfl) ir14 rfl rfl rfl (by first | rfl | omega | (simp; done) | (simp; omega) | (simp [upN_len]; omega) | (simp [idxBy_len]; omega) | (simp [marks_len]; omega) | (simp [upN_len]; done) | (simp [idxBy_len]; done) | (simp [marks_len]; done) | (simp at *; omega)) (fun u15 hu15 => ?_)
      try simp only [Int.toNat_natCast] at hu15
      obtain ⟨p, hp, ep⟩ := hat k u15 hu15
      have hpb := hb p (List.mem_of_getElem? hp)
      have hfe : u15.l = marks y p.length := by rw [ep, hy]
      have hNs : mkT (P.take (k + 1)) = mkT (P.take k) + p.length := by rw [takeC hp, mkT_snoc]
      refine LJ.yd rfl (Yd.mvI rfl) ?_
      refine LJ.callV rfl (fun k hk dk => heldIntS_e (n := p.length) (k0 := y) (RdRow.up (hx u15 (List.mem_of_getElem? hu15))) hfe (by omega) (by omega) (by omega)) ?_
      refine LJ.yd rfl (Yd.asI rfl) ?_
      refine LJ.nil ?_
      refine CJ.seq ?_
      refine CJ.region ?_
      refine LJ.yd rfl (Yd.mvI rfl) ?_
      refine LJ.yd rfl (Yd.cmpF (Yd.lss rfl rfl) (by omega)) ?_
      refine LJ.nil ?_
      refine CJ.condF rfl ?_
      refine CJ.skip ?_
      refine CJ.region ?_
      refine LJ.yd rfl (Yd.mvI rfl) ?_
      refine LJ.yd rfl (Yd.add rfl rfl (by unfold I64; omega)) ?_
      refine LJ.yd rfl (Yd.asI rfl) ?_
      refine LJ.nil ?_
      refine ⟨(k + 1, _), ?_, ⟨rfl, trivial⟩, ⟨rfl, rfl, trivial⟩, Ent.refl _, ?_⟩
      · refine ⟨by omega, ?_⟩
        rw [hNs, hy]; omega
      · first | omega | (dsimp only; omega) | (simp only []; omega)
    · refine LJ.nil ?_
      refine CJ.condF rfl ?_
      refine CJ.exit ?_
      refine CJ.seq ?_
      refine CJ.region ?_
      refine LJ.yd rfl (Yd.mvI rfl) ?_
      refine LJ.yd rfl (Yd.asI rfl) ?_
      refine LJ.nil ?_
      refine CJ.ret ?_
      refine Fin.V (Res.one (ResV.tmp (v := .int _ _) rfl)) ?_
      rw [hy, List.take_of_length_le (by omega)]
theorem asP_facts {q : Plan} {t : List Int} (ht : t ∈ asP q) : ¬ psz q < 0 ∧ (knP q).length ≤ 5 ∧ t.length = (knP q).length ∧ begOk (knP q) [] t = true := by
  unfold asP at ht
  split at ht
  · cases ht
  · rename_i h
    have := ords_mem (K := knP q) (knP q).length [] rfl t ht
    exact ⟨fun h2 => h (.inl h2), by omega, by simpa using this.2, this.1⟩
theorem asP_len (q : Plan) : (asP q).length ≤ 100000 := by
  unfold asP
  split
  · simp
  · exact Nat.le_trans (ords_len _ _ _) (pow_small (by omega) (by omega))
theorem asP_el {q : Plan} : ∀ t ∈ asP q, t.length ≤ 5 := fun t ht => by
  obtain ⟨_, h2, h3, _⟩ := asP_facts ht
  omega
theorem rows_len {q : Plan} {X : List (Rw Int)} (hX : X.map Rw.l = asP q) : ∀ u ∈ X, u.l.length ≤ 5 := fun u hu => asP_el _ (by rw [← hX]; exact List.mem_map_of_mem hu)
theorem rows_big {q : Plan} {X : List (Rw Int)} (hX : X.map Rw.l = asP q) : ∀ u ∈ X, u.l.length ≤ 281474976710656 := fun u hu => by have := rows_len hX u hu; omega
theorem rows_n {q : Plan} {X : List (Rw Int)} (hX : X.map Rw.l = asP q) : X.length ≤ 100000 := by
  have h1 := congrArg List.length hX
  have h2 := asP_len q
  rw [List.length_map] at h1; omega
theorem marks_big {k0 : Int} {q : Plan} {X : List (Rw Int)} (hX : X.map Rw.l = mkR k0 (asP q)) : ∀ u ∈ X, u.l.length ≤ 281474976710656 := fun u hu => by
  obtain ⟨j, hj⟩ := List.getElem?_of_mem hu
  have h1 : (X.map Rw.l)[j]? = some u.l := by rw [List.getElem?_map, hj]; rfl
  rw [hX] at h1
  obtain ⟨p, hp⟩ := someC (l := asP q) (j := j) (by have := (List.getElem?_eq_some_iff.1 h1).1; rwa [mkR_len] at this)
  rw [mkR_at hp h1, marks_len]
  have := asP_el p (List.mem_of_getElem? hp)
  omega
theorem FnExactAllSteps_ok {A : Amb} {u : PE} (hu : PlF A.h u) :
    Ctr Try.prog 10 #[.agg (encP u).toArray] A [] (Val (.bool true)) := by
  refine Ctr.body (args := [_]) Try.func10 rfl Try.ntmps10 Try.results10 (by simp) ?_
  refine CJ.seq ?_
  refine CJ.region ?_
  refine LJ.boxG (vs := [_, _, _, _, _]) rfl rfl (fun b1 => ?_)
  refine LJ.yd rfl (Yd.asB rfl) ?_
  refine LJ.nil ?_
  refine CJ.seq ?_
  refine CJ.region ?_
  refine LJ.yd rfl (Yd.asI rfl) ?_
  refine LJ.nil ?_
  refine CJ.seq ?_
  refine CJ.region ?_
  refine LJ.yd rfl (Yd.loadG (us := [_, _, _, _, _]) 0 rfl rfl rfl rfl) ?_
  refine LJ.yd rfl (Yd.mvI rfl) ?_
  refine LJ.call0 rfl (fun k hk dk => szPlan_ok hu _ _ up (by omega) (by omega)) ?_
  rintro _ _ ⟨r13, rfl, rfl, hr13⟩
  refine LJ.yd rfl (Yd.asI rfl) ?_
  refine LJ.nil ?_
  refine CJ.seq ?_
  refine CJ.seq ?_
  refine CJ.region ?_
  refine LJ.yd rfl (Yd.mvI rfl) ?_
  refine LJ.splitD rfl (Yd.lss rfl rfl) (fun h15 => ?_) (fun h15 => ?_)
  · refine LJ.nil ?_
    refine CJ.condT rfl ?_
    refine CJ.seq ?_
    refine CJ.region ?_
    refine LJ.yd rfl (Yd.asB rfl) ?_
    refine LJ.nil ?_
    refine CJ.ret ?_
    refine Fin.V (Res.one (ResV.tmp (v := .bool true) rfl)) ?_
    rfl
  · refine LJ.nil ?_
    refine CJ.condF rfl ?_
    refine CJ.skip ?_
    refine CJ.seq ?_
    obtain ⟨hr1, hr2, pq, hpq, hnq⟩ := hr13.resolve_left (by omega)
    have hwl := asP_len pq
    have hnn := nds_nonneg pq
    have hmn := mkT_nonneg (asP pq)
    refine CJ.region ?_
    refine LJ.yd rfl (Yd.loadG (us := [_, _, _, _, _]) 0 rfl rfl rfl rfl) ?_
    refine LJ.call0 rfl (fun k hk dk => toPlan_ok hpq.up (by omega)) ?_
    rintro _ _ ⟨w17, rfl, rfl⟩
    refine LJ.norm [_, _] rfl ?_
    refine LJ.call0 rfl (fun k hk dk => AllStepsS_ok (Sts.plO hk dk 1 rfl)) ?_
    rintro _ _ ⟨wa, wc, W, rfl, rfl, hW⟩
    have hWn := rows_n hW
    refine LJ.norm [_, _, _, _] rfl ?_
    refine LJ.yd rfl (Yd.asS rfl) ?_
    refine LJ.nil ?_
    refine CJ.seq ?_
    refine CJ.region ?_
    refine LJ.yd rfl (Yd.loadG (us := [_, _, _, _, _]) 0 rfl rfl rfl rfl) ?_
    refine LJ.call0 rfl (fun k hk dk => toPlan_ok hpq.up (by omega)) ?_
    rintro _ _ ⟨w20, rfl, rfl⟩
    refine LJ.norm [_, _, _, _, _] rfl ?_
    refine LJ.alloc ([_, _, _, _, _] : List Value) rfl rfl (fun b2 => ?_)
    refine LJ.store (v := .agg #[_, _, _, _, _]) (us := [_, _, _, _, _]) 5 rfl rfl rfl rfl rfl rfl rfl rfl ?_
    refine LJ.nil ?_
    refine CJ.seq ?_
    refine CJ.region ?_
    refine LJ.yd rfl (Yd.loadG (us := [_, _, _, _, _]) 5 rfl rfl rfl rfl) ?_
    refine LJ.call0 rfl (fun k hk dk => AllStepsI_ok (Sts.plO hk dk 4 rfl)) ?_
    rintro _ _ ⟨ga, gc, G, rfl, rfl, hG⟩
    have hGn := rows_n hG
    have hGl := rows_len hG
    refine LJ.norm [_, _, _, _, _, _, _, _] rfl ?_
    refine LJ.yd rfl (Yd.asS rfl) ?_
    refine LJ.nil ?_
    refine CJ.seq ?_
    refine CJ.seq ?_
    refine CJ.region ?_
    refine LJ.yd rfl (Yd.mvS rfl) ?_
    refine LJ.yd rfl (Yd.mvS rfl) ?_
    refine LJ.callV rfl (fun k hk dk => eqIntSS_T (Sts.lrm hk dk 6 (by first | rfl | omega | (simp; done) | (simp; omega) | (simp [upN_len]; omega) | (simp [idxBy_len]; omega) | (simp [marks_len]; omega) | (simp [upN_len]; done) | (simp [idxBy_len]; done) | (simp [marks_len]; done) | (simp at *; omega)) (by first | rfl | omega | (simp; done) | (simp; omega) | (simp [upN_len]; omega) | (simp [idxBy_len]; omega) | (simp [marks_len]; omega) | (simp [upN_len]; done) | (simp [idxBy_len]; done) | (simp [marks_len]; done) | (simp at *; omega)) rfl) (Sts.lrm hk dk 2 (by first | rfl | omega | (simp; done) | (simp; omega) | (simp [upN_len]; omega) | (simp [idxBy_len]; omega) | (simp [marks_len]; omega) | (simp [upN_len]; done) | (simp [idxBy_len]; done) | (simp [marks_len]; done) | (simp at *; omega)) (by first | rfl | omega | (simp; done) | (simp; omega) | (simp [upN_len]; omega) | (simp [idxBy_len]; omega) | (simp [marks_len]; omega) | (simp [upN_len]; done) | (simp [idxBy_len]; done) | (simp [marks_len]; done) | (simp at *; omega)) rfl) (Sts.inns hk dk 7 (rows_big hG) rfl) (Sts.inns hk dk 3 (rows_big hW) rfl) (hG.trans hW.symm)) ?_
    refine LJ.yd rfl (Yd.not rfl) ?_
    refine LJ.nil ?_
    refine CJ.condF rfl ?_
    refine CJ.skip ?_
    refine CJ.seq ?_
    refine CJ.seq ?_
    refine CJ.regionD [0, 1, 2, 3, 4, 5, 6, 7] [] (by kernel_rfl) rfl ?_
    refine DJ.norm [_, _, _, _, _, _, _, _] [] rfl rfl ?_
    refine DJ.yd 0 rfl (by kernel_rfl) (by kernel_rfl) (by kernel_rfl) rfl rfl (Yd.loadG (us := [_, _, _, _, _]) 5 rfl rfl rfl rfl) ?_
    refine DJ.yd 1 rfl (by kernel_rfl) (by kernel_rfl) (by kernel_rfl) rfl rfl (Yd.loadG (us := [_, _, _, _, _]) 0 rfl rfl rfl rfl) ?_
    refine DJ.one (i := 2) (by kernel_rfl) ?_
    refine DO.call0 rfl rfl rfl (fun k0 hk0 dk0 k hk dk => toPlan_ok hpq.up (by omega)) ?_
    rintro _ _ ⟨w29, rfl, rfl⟩
    refine DJ.norm [_, _, _, _, _, _, _, _] [_] rfl rfl ?_
    refine DJ.one (i := 3) (by kernel_rfl) ?_
    refine DO.callV rfl rfl rfl (fun k0 hk0 dk0 k hk dk => eqPlan_T ((Sts.plO hk0 dk0 4 rfl).up) (Sts.plO hk dk 0 rfl)) ?_
    refine DJ.yd 4 rfl (by kernel_rfl) (by kernel_rfl) (by kernel_rfl) rfl rfl (Yd.not rfl) ?_
    refine DJ.done (by kernel_rfl) ?_
    refine CJ.condF rfl ?_
    refine CJ.skip ?_
    refine CJ.seq ?_
    refine CJ.region ?_
    refine LJ.yd rfl (Yd.asI rfl) ?_
    refine LJ.nil ?_
    refine CJ.seq ?_
    refine CJ.region ?_
    refine LJ.yd rfl (Yd.loadG (us := [_, _, _, _, _]) 5 rfl rfl rfl rfl) ?_
    refine LJ.yd rfl (Yd.mvI rfl) ?_
    refine LJ.call (pickF _ [0, 1, 2, 3, 5, 6, 7, 8]) (pickF _ [4]) rfl (perm_pickF _ [0, 1, 2, 3, 5, 6, 7, 8] [4] rfl) (fun k hk dk => markPlan_ok (by omega) (by omega) (by omega)) ?_
    rintro _ _ ⟨rfl, rfl⟩
    refine LJ.norm [_, _, _, _, _, _, _, _] rfl ?_
    refine LJ.yd rfl (Yd.asI rfl) ?_
    refine LJ.nil ?_
    refine CJ.seq ?_
    refine CJ.seq ?_
    refine CJ.region ?_
    refine LJ.yd rfl (Yd.mvI rfl) ?_
    refine LJ.splitD rfl (Yd.lss rfl rfl) (fun h36 => ?_) (fun h36 => ?_)
    · exfalso; omega
    · refine LJ.yd rfl (Yd.mvB rfl) ?_
      refine LJ.gT rfl ?_
      refine LJ.yd rfl (Yd.mvS rfl) ?_
      refine LJ.gT rfl ?_
      refine LJ.yd rfl (Yd.mvS rfl) ?_
      refine LJ.gT rfl ?_
      refine LJ.callV rfl (fun k hk dk => eqIntSS_T (Sts.lrm hk dk 5 (by first | rfl | omega | (simp; done) | (simp; omega) | (simp [upN_len]; omega) | (simp [idxBy_len]; omega) | (simp [marks_len]; omega) | (simp [upN_len]; done) | (simp [idxBy_len]; done) | (simp [marks_len]; done) | (simp at *; omega)) (by first | rfl | omega | (simp; done) | (simp; omega) | (simp [upN_len]; omega) | (simp [idxBy_len]; omega) | (simp [marks_len]; omega) | (simp [upN_len]; done) | (simp [idxBy_len]; done) | (simp [marks_len]; done) | (simp at *; omega)) rfl) (Sts.lrm hk dk 2 (by first | rfl | omega | (simp; done) | (simp; omega) | (simp [upN_len]; omega) | (simp [idxBy_len]; omega) | (simp [marks_len]; omega) | (simp [upN_len]; done) | (simp [idxBy_len]; done) | (simp [marks_len]; done) | (simp at *; omega)) (by first | rfl | omega | (simp; done) | (simp; omega) | (simp [upN_len]; omega) | (simp [idxBy_len]; omega) | (simp [marks_len]; omega) | (simp [upN_len]; done) | (simp [idxBy_len]; done) | (simp [marks_len]; done) | (simp at *; omega)) rfl) (Sts.inns hk dk 6 (rows_big hG) rfl) (Sts.inns hk dk 3 (rows_big hW) rfl) (hG.trans hW.symm)) ?_
      refine LJ.gT rfl ?_
      refine LJ.yd rfl (Yd.not rfl) ?_
      refine LJ.yd rfl (Yd.pickFB rfl rfl) ?_
      refine LJ.nil ?_
      refine CJ.condF rfl ?_
      refine CJ.skip ?_
      refine CJ.seq ?_
      refine CJ.region ?_
      refine LJ.yd rfl (Yd.asI rfl) ?_
      refine LJ.nil ?_
      refine CJ.seq ?_
      refine CJ.region ?_
      refine LJ.yd rfl (Yd.mvS rfl) ?_
      refine LJ.yd rfl (Yd.mvI rfl) ?_
      refine LJ.call (pickF _ [0, 1, 2, 3, 4, 7]) (pickF _ [5, 6]) rfl (perm_pickF _ [0, 1, 2, 3, 4, 7] [5, 6] rfl) (fun k hk dk => markIntSS_ok rfl (by omega) (by omega) (by omega) hGl) ?_
      rintro _ _ ⟨G2, rfl, rfl, hG2, hG2l⟩
      rw [hG] at hG2 ⊢
      refine LJ.norm [_, _, _, _, _, _, _, _] rfl ?_
      refine LJ.yd rfl (Yd.asI rfl) ?_
      refine LJ.nil ?_
      refine CJ.seq ?_
      refine CJ.region ?_
      refine LJ.yd rfl (Yd.asI rfl) ?_
      refine LJ.nil ?_
      refine CJ.seq ?_
      refine CJ.region ?_
      refine LJ.yd rfl (Yd.mvS rfl) ?_
      refine LJ.yd rfl (Yd.mvI rfl) ?_
      refine LJ.callV rfl (fun k hk dk => heldIntSS_ok (Sts.lrm hk dk 6 (by omega) (by omega) rfl) (Sts.inns hk dk 7 (marks_big hG2) rfl) hG2 (by omega) (by omega) (by omega) asP_el) ?_
      refine LJ.yd rfl (Yd.asI rfl) ?_
      refine LJ.nil ?_
      refine CJ.seq ?_
      refine CJ.seq ?_
      refine CJ.region ?_
      refine LJ.yd rfl (Yd.mvI rfl) ?_
      refine LJ.splitD rfl (Yd.lss rfl rfl) (fun h50 => ?_) (fun h50 => ?_)
      · exfalso; omega
      · refine LJ.nil ?_
        refine CJ.condF rfl ?_
        refine CJ.skip ?_
        refine CJ.seq ?_
        refine CJ.seq ?_
        refine CJ.region ?_
        refine LJ.yd rfl (Yd.mvI rfl) ?_
        refine LJ.yd rfl (Yd.mvI rfl) ?_
        refine LJ.splitN rfl (Yd.neq rfl rfl) (fun h53 => ?_) (fun h53 => ?_)
        · exfalso; omega
        · refine LJ.nil ?_
          refine CJ.condF rfl ?_
          refine CJ.skip ?_
          refine CJ.seq ?_
          refine CJ.region ?_
          refine LJ.yd rfl (Yd.loadG (us := [_, _, _, _, _]) 0 rfl rfl rfl rfl) ?_
          refine LJ.call0 rfl (fun k hk dk => toPlan_ok hpq.up (by omega)) ?_
          rintro _ _ ⟨w55, rfl, rfl⟩
          refine LJ.norm [_, _, _, _, _, _, _, _, _] rfl ?_
          refine LJ.call0 rfl (fun k hk dk => AllStepsI_ok (Sts.plO hk dk 8 rfl)) ?_
          rintro _ _ ⟨ha, hc, H, rfl, rfl, hH⟩
          have hHn := rows_n hH
          refine LJ.norm [_, _, _, _, _, _, _, _, _, _, _] rfl ?_
          refine LJ.yd rfl (Yd.asS rfl) ?_
          refine LJ.nil ?_
          refine CJ.seq ?_
          refine CJ.seq ?_
          refine CJ.region ?_
          refine LJ.yd rfl (Yd.mvS rfl) ?_
          refine LJ.yd rfl (Yd.mvS rfl) ?_
          refine LJ.callV rfl (fun k hk dk => eqIntSS_T (Sts.lrm hk dk 9 (by first | rfl | omega | (simp; done) | (simp; omega) | (simp [upN_len]; omega) | (simp [idxBy_len]; omega) | (simp [marks_len]; omega) | (simp [upN_len]; done) | (simp [idxBy_len]; done) | (simp [marks_len]; done) | (simp at *; omega)) (by first | rfl | omega | (simp; done) | (simp; omega) | (simp [upN_len]; omega) | (simp [idxBy_len]; omega) | (simp [marks_len]; omega) | (simp [upN_len]; done) | (simp [idxBy_len]; done) | (simp [marks_len]; done) | (simp at *; omega)) rfl) (Sts.lrm hk dk 2 (by first | rfl | omega | (simp; done) | (simp; omega) | (simp [upN_len]; omega) | (simp [idxBy_len]; omega) | (simp [marks_len]; omega) | (simp [upN_len]; done) | (simp [idxBy_len]; done) | (simp [marks_len]; done) | (simp at *; omega)) (by first | rfl | omega | (simp; done) | (simp; omega) | (simp [upN_len]; omega) | (simp [idxBy_len]; omega) | (simp [marks_len]; omega) | (simp [upN_len]; done) | (simp [idxBy_len]; done) | (simp [marks_len]; done) | (simp at *; omega)) rfl) (Sts.inns hk dk 10 (rows_big hH) rfl) (Sts.inns hk dk 3 (rows_big hW) rfl) (hH.trans hW.symm)) ?_
          refine LJ.yd rfl (Yd.not rfl) ?_
          refine LJ.nil ?_
          refine CJ.condF rfl ?_
          refine CJ.skip ?_
          refine CJ.seq ?_
          refine CJ.region ?_
          refine LJ.yd rfl (Yd.asI rfl) ?_
          refine LJ.nil ?_
          refine CJ.seq ?_
          refine CJ.region ?_
          refine LJ.yd rfl (Yd.mvS rfl) ?_
          refine LJ.yd rfl (Yd.mvI rfl) ?_
          refine LJ.callV rfl (fun k hk dk => heldIntSS_ok (Sts.lrm hk dk 6 (by omega) (by omega) rfl) (Sts.inns hk dk 7 (marks_big hG2) rfl) hG2 (by omega) (by omega) (by omega) asP_el) ?_
          refine LJ.yd rfl (Yd.asI rfl) ?_
          refine LJ.nil ?_
          refine CJ.seq ?_
          refine CJ.seq ?_
          refine CJ.region ?_
          refine LJ.yd rfl (Yd.mvI rfl) ?_
          refine LJ.splitD rfl (Yd.lss rfl rfl) (fun h65 => ?_) (fun h65 => ?_)
          · exfalso; omega
          · refine LJ.nil ?_
            refine CJ.condF rfl ?_
            refine CJ.skip ?_
            refine CJ.seq ?_
            refine CJ.seq ?_
            refine CJ.region ?_
            refine LJ.yd rfl (Yd.mvI rfl) ?_
            refine LJ.yd rfl (Yd.mvI rfl) ?_
            refine LJ.splitN rfl (Yd.neq rfl rfl) (fun h68 => ?_) (fun h68 => ?_)
            · exfalso; omega
            · refine LJ.nil ?_
              refine CJ.condF rfl ?_
              refine CJ.skip ?_
              refine CJ.seq ?_
              refine CJ.region ?_
              refine LJ.yd rfl (Yd.asB rfl) ?_
              refine LJ.nil ?_
              refine CJ.ret ?_
              refine Fin.V (Res.one (ResV.tmp (v := .bool true) rfl)) ?_
              rfl
end Go.Proofs.Ytfnnhekbgjofoaa
