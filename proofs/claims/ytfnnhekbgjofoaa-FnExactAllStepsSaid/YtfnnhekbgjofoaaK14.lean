/-
  Contracts: all orders of cuts.
-/
import Derived.Test.YtfnnhekbgjofoaaK6
import Derived.Test.YtfnnhekbgjofoaaK10
import Derived.Test.YtfnnhekbgjofoaaK11
namespace Go.Proofs.Ytfnnhekbgjofoaa
open Go
set_option maxRecDepth 20000
set_option maxHeartbeats 1000000

theorem copyInts_ok {A : Amb} {v : Value} {l : List Int} (hl : RdL encI 1 A.h v l) (hb : l.length ≤ 2000000) : Ctr Try.prog 75 #[v] A [] (RLP encI 3 1 l) := by
  obtain ⟨la, lc, rfl, hlb, hl⟩ := hl.un
  refine Ctr.body (args := [_]) Try.func75 rfl Try.ntmps75 Try.results75 (by simp) ?_
  refine CJ.seq ?_
  refine CJ.region ?_
  refine LJ.yd rfl (Yd.asS rfl) ?_
  refine LJ.nil ?_
  refine CJ.seq ?_
  refine CJ.region ?_
  refine LJ.op rfl (OpR.buildSlice (cs := []) rfl rfl) ?_
  rintro _ _ ⟨b1, rfl, rfl⟩
  refine LJ.yd rfl (Yd.mvS rfl) ?_
  refine LJ.imp1 0 rfl (fun _ h => Cel.lr (enc := encI) (k := 1) (m := 0) [] rfl rfl rfl rfl h) ?_
  refine LJ.norm [_] rfl ?_
  refine LJ.op rfl (OpR.apA (enc := encI) 0 rfl hl rfl (by first | rfl | omega | (simp; done) | (simp; omega) | (simp [upN_len]; omega) | (simp [idxBy_len]; omega) | (simp [marks_len]; omega) | (simp [upN_len]; done) | (simp [idxBy_len]; done) | (simp [marks_len]; done) | (simp at *; omega)) rfl (fun _ => rfl) (by first | rfl | omega | (simp; done) | (simp; omega) | (simp [upN_len]; omega) | (simp [idxBy_len]; omega) | (simp [marks_len]; omega) | (simp [upN_len]; done) | (simp [idxBy_len]; done) | (simp [marks_len]; done) | (simp at *; omega))) ?_
  rintro _ _ ⟨ra5, rc5, rfl, rfl⟩
  refine LJ.norm [_] rfl ?_
  refine LJ.yd rfl (Yd.asS rfl) ?_
  refine LJ.nil ?_
  refine CJ.ret ?_
  refine Fin.RL 0 (Res.one (ResV.tmp (v := .slice _ _ _) rfl)) rfl (by first | rfl | omega | (simp; done) | (simp; omega) | (simp [upN_len]; omega) | (simp [idxBy_len]; omega) | (simp [marks_len]; omega) | (simp [upN_len]; done) | (simp [idxBy_len]; done) | (simp [marks_len]; done) | (simp at *; omega)) ?_
  rfl
/-- lists that are owned, read one by one -/
theorem Sts.inns {α : Type} {enc : α → List Value} {E : TypeId} {q : Nat} {xs : List (Rw α)} {A : Amb} {fr : List HProp} {k : Hp} (hk : Sts fr k) (dk : A.h.Dj k) (i : Nat) (hb : ∀ u ∈ xs, u.l.length ≤ 281474976710656)
    (hi : fr[i]? = some (INN (rowOf enc E q) xs)) : ∀ u ∈ xs, RdL enc q (A.ext k).h (.slice u.a u.l.length u.c) u.l := fun u hu => by
  obtain ⟨j, hj⟩ := List.getElem?_of_mem hu
  exact Sts.inn hk dk i hj (hb u hu) hi
theorem sz_succ (p : Int × Int) (K : List (Int × Int)) (s : List Int) (h : begOk K [] s = true) : begOk K [] (s ++ [p.1]) = okStep K s p.1 := by
  rw [begOk_append, h]; simp [begOk]
theorem addOrders_ok {K : List (Int × Int)} (hK : KOk K) (hk5 : K.length ≤ 5) : ∀ (f : Nat) (A : Amb) (v w : Value) (s : List Int) (X : List (Rw Int)) (a : Option Addr) (m c : Nat), f + s.length = K.length → begOk K [] s = true → X.length + K.length ^ f ≤ 100000 → m = X.length →
    RdL encK 2 A.h v K → RdL encI 1 A.h w s → Ctr Try.prog 64 #[.slice a m c, v, w] A [LR encR 30 1 a c X, INN (rowOf encI 3 1) X] (RLLP encI 3 1 30 (X.map Rw.l ++ ords K f s)) := by
  intro f
  induction f with
  | zero =>
    intro A v w s X a m c hf hb hX hm hl hs
    subst hm
    obtain ⟨la, lc, rfl, hlb, hl⟩ := hl.un
    obtain ⟨sa, sc, rfl, hsb, hs⟩ := hs.un
    refine Ctr.body (args := [_, _, _]) Try.func64 rfl Try.ntmps64 Try.results64 (by simp) ?_
    refine CJ.seq ?_
    refine CJ.region ?_
    refine LJ.yd rfl (Yd.asS rfl) ?_
    refine LJ.nil ?_
    refine CJ.seq ?_
    refine CJ.seq ?_
    refine CJ.region ?_
    refine LJ.yd rfl (Yd.mvS rfl) ?_
    refine LJ.yd rfl (Yd.len rfl) ?_
    refine LJ.yd rfl (Yd.mvS rfl) ?_
    refine LJ.yd rfl (Yd.len rfl) ?_
    refine LJ.splitD rfl (Yd.eql rfl rfl) (fun h14 => ?_) (fun h14 => ?_)
    · refine LJ.nil ?_
      refine CJ.condT rfl ?_
      refine CJ.seq ?_
      refine CJ.region ?_
      refine LJ.yd rfl (Yd.mvS rfl) ?_
      refine LJ.yd rfl (Yd.mvS rfl) ?_
      refine LJ.ent (Ent.addLR encI 3 1) ?_
      refine LJ.norm [_, _, _] rfl ?_
      refine LJ.op rfl (OpR.apA (enc := encI) 2 rfl hs rfl (by first | rfl | omega | (simp; done) | (simp; omega) | (simp [upN_len]; omega) | (simp [idxBy_len]; omega) | (simp [marks_len]; omega) | (simp [upN_len]; done) | (simp [idxBy_len]; done) | (simp [marks_len]; done) | (simp at *; omega)) rfl (fun _ => rfl) (by first | rfl | omega | (simp; done) | (simp; omega) | (simp [upN_len]; omega) | (simp [idxBy_len]; omega) | (simp [marks_len]; omega) | (simp [upN_len]; done) | (simp [idxBy_len]; done) | (simp [marks_len]; done) | (simp at *; omega))) ?_
      rintro _ _ ⟨ra17, rc17, rfl, rfl⟩
      refine LJ.norm [_, _, _] rfl ?_
      refine LJ.op rfl (OpR.buildSlice (cs := [_]) rfl rfl) ?_
      rintro _ _ ⟨b2, rfl, rfl⟩
      refine LJ.op rfl (OpR.apT (enc := encR) [⟨_, _, _⟩] 0 3 rfl rfl rfl (by first | rfl | omega | (simp; done) | (simp; omega) | (simp [upN_len]; omega) | (simp [idxBy_len]; omega) | (simp [marks_len]; omega) | (simp [upN_len]; done) | (simp [idxBy_len]; done) | (simp [marks_len]; done) | (simp at *; omega)) rfl rfl rfl rfl rfl (by first | rfl | omega | (simp; done) | (simp; omega) | (simp [upN_len]; omega) | (simp [idxBy_len]; omega) | (simp [marks_len]; omega) | (simp [upN_len]; done) | (simp [idxBy_len]; done) | (simp [marks_len]; done) | (simp at *; omega))) ?_
      rintro _ _ ⟨ra19, rc19, rfl, rfl⟩
      refine LJ.norm [_, _, _, _] rfl ?_
      refine LJ.ent (Ent.pickFold [0, 3] [1, 2] [] rfl (fun _ s => INN.snoc (f := (rowOf encI 3 1)) (u := ⟨_, _, _⟩) s)) ?_
      refine LJ.norm [_, _, _] rfl ?_
      refine LJ.yd rfl (Yd.asS rfl) ?_
      refine LJ.nil ?_
      refine CJ.ret ?_
      exact Fin.R [_, _] (Res.one (ResV.tmp (v := .slice _ _ _) rfl)) ⟨_, _, _, rfl, rfl, by simp [ords]⟩ (Ent.pick [0, 2] [1] rfl)
    · exfalso; omega
  | succ f ih =>
    intro A v w s X a m c hf hb hX hm hl hs
    subst hm
    obtain ⟨la, lc, rfl, hlb, hl⟩ := hl.un
    obtain ⟨sa, sc, rfl, hsb, hs⟩ := hs.un
    rw [Nat.pow_succ, Nat.mul_comm] at hX
    generalize hp : K.length ^ f = p at *
    refine Ctr.body (args := [_, _, _]) Try.func64 rfl Try.ntmps64 Try.results64 (by simp) ?_
    refine CJ.seq ?_
    refine CJ.region ?_
    refine LJ.yd rfl (Yd.asS rfl) ?_
    refine LJ.nil ?_
    refine CJ.seq ?_
    refine CJ.seq ?_
    refine CJ.region ?_
    refine LJ.yd rfl (Yd.mvS rfl) ?_
    refine LJ.yd rfl (Yd.len rfl) ?_
    refine LJ.yd rfl (Yd.mvS rfl) ?_
    refine LJ.yd rfl (Yd.len rfl) ?_
    refine LJ.splitD rfl (Yd.eql rfl rfl) (fun h14 => ?_) (fun h14 => ?_)
    · exfalso; omega
    · refine LJ.nil ?_
      refine CJ.condF rfl ?_
      refine CJ.skip ?_
      refine CJ.seq ?_
      refine CJ.seq ?_
      refine CJ.region ?_
      refine LJ.yd rfl (Yd.mvS rfl) ?_
      refine LJ.yd rfl (Yd.len rfl) ?_
      refine LJ.yd rfl (Yd.mvI rfl) ?_
      refine LJ.nil ?_
      refine CJ.block ?_
      refine CJ.loopF [1, 2, 6, 20, 21] (Nat × List (Rw Int) × Option Addr × Nat × Nat) (fun ⟨kk, Y, YA, YN, YC⟩ => (YN = Y.length) ∧ kk ≤ K.length ∧ Y.map Rw.l ++ (K.drop kk).flatMap (fun q => if okStep K s q.1 = true then ords K f (s ++ [q.1]) else []) = X.map Rw.l ++ ords K (f + 1) s ∧ Y.length ≤ X.length + kk * p) (fun ⟨kk, Y, YA, YN, YC⟩ => [(22, vI kk), (0, .slice YA YN YC)]) (fun ⟨kk, Y, YA, YN, YC⟩ => [LR encR 30 1 YA YC Y, INN (rowOf encI 3 1) Y]) (fun ⟨kk, Y, YA, YN, YC⟩ => K.length - kk) (0, X, _, _, _) [] [] [0, 1] rfl rfl rfl ?_ ⟨rfl, rfl, trivial⟩ ?_
      · exact ⟨(by first | rfl | omega | (simp; done) | (simp; omega) | (simp [upN_len]; omega) | (simp [idxBy_len]; omega) | (simp [marks_len]; omega) | (simp [upN_len]; done) | (simp [idxBy_len]; done) | (simp [marks_len]; done) | (simp at *; omega)), ⟨by omega, rfl, by omega⟩⟩
      · rintro ⟨kk, Y, YA, YN, YC⟩ σ ⟨hlNY, ⟨hk1, hY, hYl⟩⟩
        subst hlNY
        refine CJ.norm [_, _] rfl ?_
        refine CJ.seq ?_
        refine CJ.region ?_
        refine LJ.splitD rfl (Yd.lss rfl rfl) (fun h23 => ?_) (fun h23 => ?_)
        · refine LJ.nil ?_
          refine CJ.seq ?_
          refine CJ.condT rfl ?_
          refine CJ.skip ?_
          refine CJ.seq ?_
          refine CJ.block ?_
          refine CJ.seq ?_
          refine CJ.region ?_
          refine LJ.idxA rfl hl rfl rfl (by omega) (by first | rfl | omega | (simp; done) | (simp; omega) | (simp [upN_len]; omega) | (simp [idxBy_len]; omega) | (simp [marks_len]; omega) | (simp [upN_len]; done) | (simp [idxBy_len]; done) | (simp [marks_len]; done) | (simp at *; omega)) (fun ib24 io24 ia24 ir24 => ?_)
          refine LJ.lgA (enc := encK) (fun u => [vI u.1, vI u.2]) (fun _ => rfl) (fun _ => rfl) ir24 rfl rfl rfl (by first | rfl | omega | (simp; done) | (simp; omega) | (simp [upN_len]; omega) | (simp [idxBy_len]; omega) | (simp [marks_len]; omega) | (simp [upN_len]; done) | (simp [idxBy_len]; done) | (simp [marks_len]; done) | (simp at *; omega)) (fun u25 hu25 => ?_)
          try simp only [Int.toNat_natCast] at hu25
          refine LJ.alloc ([_, _] : List Value) rfl rfl (fun b1 => ?_)
          refine LJ.store (v := .agg #[_, _]) (us := [_, _]) 2 rfl rfl rfl rfl rfl rfl rfl rfl ?_
          refine LJ.nil ?_
          refine CJ.seq ?_
          refine CJ.regionD [0, 1, 2] [] (by kernel_rfl) rfl ?_
          refine DJ.norm [_, _, _] [] rfl rfl ?_
          refine DJ.yd 0 rfl (by kernel_rfl) (by kernel_rfl) (by kernel_rfl) rfl rfl (Yd.mvS rfl) ?_
          refine DJ.yd 2 rfl (by kernel_rfl) (by kernel_rfl) (by kernel_rfl) rfl rfl (Yd.fieldAddr rfl) ?_
          refine DJ.yd 3 rfl (by kernel_rfl) (by kernel_rfl) (by kernel_rfl) rfl rfl (Yd.loadC 2 rfl rfl rfl) ?_
          refine DJ.two (i := 1) (j := 4) (by kernel_rfl) ?_ ?_
          · refine DO.ent (Ent.addLR encI 3 1) ?_
            refine DO.norm [_] rfl ?_
            refine DO.op rfl rfl rfl (fun k0 hk0 dk0 => OpR.apA (enc := encI) 0 rfl (RdRow.up hs) rfl (by first | rfl | omega | (simp; done) | (simp; omega) | (simp [upN_len]; omega) | (simp [idxBy_len]; omega) | (simp [marks_len]; omega) | (simp [upN_len]; done) | (simp [idxBy_len]; done) | (simp [marks_len]; done) | (simp at *; omega)) rfl (fun _ => rfl) (by first | rfl | omega | (simp; done) | (simp; omega) | (simp [upN_len]; omega) | (simp [idxBy_len]; omega) | (simp [marks_len]; omega) | (simp [upN_len]; done) | (simp [idxBy_len]; done) | (simp [marks_len]; done) | (simp at *; omega))) ?_
            rintro _ _ ⟨ra27, rc27, rfl, rfl⟩
            refine DJ.norm [_, _, _] [_] rfl rfl ?_
            refine DJ.one (i := 4) (by kernel_rfl) ?_
            refine DO.op rfl rfl rfl (fun k0 hk0 dk0 => OpR.buildSlice (cs := [_]) rfl rfl) ?_
            rintro _ _ ⟨b3, rfl, rfl⟩
            refine DJ.one (i := 5) (by kernel_rfl) ?_
            refine DO.op rfl rfl rfl (fun k0 hk0 dk0 => OpR.apT (enc := encI) [_] 0 1 rfl rfl rfl (by first | rfl | omega | (simp; done) | (simp; omega) | (simp [upN_len]; omega) | (simp [idxBy_len]; omega) | (simp [marks_len]; omega) | (simp [upN_len]; done) | (simp [idxBy_len]; done) | (simp [marks_len]; done) | (simp at *; omega)) rfl rfl rfl rfl rfl (by first | rfl | omega | (simp; done) | (simp; omega) | (simp [upN_len]; omega) | (simp [idxBy_len]; omega) | (simp [marks_len]; omega) | (simp [upN_len]; done) | (simp [idxBy_len]; done) | (simp [marks_len]; done) | (simp at *; omega))) ?_
            rintro _ _ ⟨ra31, rc31, rfl, rfl⟩
            refine DJ.norm [_, _, _] [_, _] rfl rfl ?_
            refine DJ.yd 6 rfl (by kernel_rfl) (by kernel_rfl) (by kernel_rfl) rfl rfl (Yd.asS rfl) ?_
            refine DJ.done (by kernel_rfl) ?_
            refine CJ.seq ?_
            refine CJ.region ?_
            refine LJ.yd rfl (Yd.mvS rfl) ?_
            refine LJ.yd rfl (Yd.mvS rfl) ?_
            refine LJ.callB rfl (fun k hk dk => beginsOrder_ok hK (RdRow.up hl) (Sts.lrm hk dk 3 (by first | rfl | omega | (simp; done) | (simp; omega) | (simp [upN_len]; omega) | (simp [idxBy_len]; omega) | (simp [marks_len]; omega) | (simp [upN_len]; done) | (simp [idxBy_len]; done) | (simp [marks_len]; done) | (simp at *; omega)) (by first | rfl | omega | (simp; done) | (simp; omega) | (simp [upN_len]; omega) | (simp [idxBy_len]; omega) | (simp [marks_len]; omega) | (simp [upN_len]; done) | (simp [idxBy_len]; done) | (simp [marks_len]; done) | (simp at *; omega)) rfl)) (fun h34 => ?_) (fun h34 => ?_)
            · refine LJ.nil ?_
              refine CJ.condT rfl ?_
              refine CJ.region ?_
              refine LJ.yd rfl (Yd.mvS rfl) ?_
              refine LJ.yd rfl (Yd.mvS rfl) ?_
              refine LJ.yd rfl (Yd.mvS rfl) ?_
              refine LJ.call (pickF _ [2, 3, 4]) (pickF _ [0, 1]) rfl (perm_pickF _ [2, 3, 4] [0, 1] rfl) (fun k hk dk => ih _ _ _ (s ++ [u25.1]) _ _ _ _ (by simp; omega) h34 (by have := Nat.mul_le_mul_right p (show kk + 1 ≤ K.length by omega); rw [Nat.add_mul] at this; omega) rfl (RdRow.up hl) (Sts.lrm hk dk 1 (by first | rfl | omega | (simp; done) | (simp; omega) | (simp [upN_len]; omega) | (simp [idxBy_len]; omega) | (simp [marks_len]; omega) | (simp [upN_len]; done) | (simp [idxBy_len]; done) | (simp [marks_len]; done) | (simp at *; omega)) (by first | rfl | omega | (simp; done) | (simp; omega) | (simp [upN_len]; omega) | (simp [idxBy_len]; omega) | (simp [marks_len]; omega) | (simp [upN_len]; done) | (simp [idxBy_len]; done) | (simp [marks_len]; done) | (simp at *; omega)) rfl)) ?_
              rintro _ _ ⟨ra38, rc38, Y2, rfl, rfl, hY2⟩
              refine LJ.norm [_, _, _, _, _] rfl ?_
              refine LJ.yd rfl (Yd.asS rfl) ?_
              refine LJ.nil ?_
              refine CJ.region ?_
              refine LJ.yd rfl (Yd.add rfl rfl (by unfold I64; omega)) ?_
              refine LJ.yd rfl (Yd.mvI rfl) ?_
              refine LJ.nil ?_
              refine ⟨(kk + 1, _, _, _, _), ?_, ⟨rfl, rfl, rfl, rfl, rfl, trivial⟩, ⟨rfl, rfl, trivial⟩, Ent.pick [3, 4] [0, 1, 2] rfl, ?_⟩
              · refine ⟨(by first | rfl | omega | (simp; done) | (simp; omega) | (simp [upN_len]; omega) | (simp [idxBy_len]; omega) | (simp [marks_len]; omega) | (simp [upN_len]; done) | (simp [idxBy_len]; done) | (simp [marks_len]; done) | (simp at *; omega)), ?_⟩
                refine ⟨by omega, ?_⟩
                rw [dropC hu25, List.flatMap_cons] at hY
                first
                  | (have h35 : okStep K s u25.1 = true := by rw [← sz_succ u25 K s hb]; exact h34
                     rw [if_pos h35, ← List.append_assoc] at hY
                     refine ⟨by rw [hY2]; exact hY, ?_⟩
                     have h1 := congrArg List.length hY2
                     have h2 := ords_len K f (s ++ [u25.1])
                     rw [List.length_append, List.length_map, List.length_map] at h1
                     rw [hp] at h2
                     rw [Nat.add_mul]; omega)
                  | (have h35 : ¬ okStep K s u25.1 = true := by rw [← sz_succ u25 K s hb]; intro h; rw [show begOk K [] (s ++ [u25.1]) = false from h34] at h; cases h
                     rw [if_neg h35, List.nil_append] at hY
                     exact ⟨hY, by rw [Nat.add_mul]; omega⟩)
              · first | omega | (dsimp only; omega) | (simp only []; omega)
            · refine LJ.nil ?_
              refine CJ.condF rfl ?_
              refine CJ.skip ?_
              refine CJ.region ?_
              refine LJ.yd rfl (Yd.add rfl rfl (by unfold I64; omega)) ?_
              refine LJ.yd rfl (Yd.mvI rfl) ?_
              refine LJ.nil ?_
              refine ⟨(kk + 1, _, _, _, _), ?_, ⟨rfl, rfl, rfl, rfl, rfl, trivial⟩, ⟨rfl, rfl, trivial⟩, Ent.pick [0, 1] [2, 3, 4] rfl, ?_⟩
              · refine ⟨(by first | rfl | omega | (simp; done) | (simp; omega) | (simp [upN_len]; omega) | (simp [idxBy_len]; omega) | (simp [marks_len]; omega) | (simp [upN_len]; done) | (simp [idxBy_len]; done) | (simp [marks_len]; done) | (simp at *; omega)), ?_⟩
                refine ⟨by omega, ?_⟩
                rw [dropC hu25, List.flatMap_cons] at hY
                first
                  | (have h35 : okStep K s u25.1 = true := by rw [← sz_succ u25 K s hb]; exact h34
                     rw [if_pos h35, ← List.append_assoc] at hY
                     refine ⟨by rw [hY2]; exact hY, ?_⟩
                     have h1 := congrArg List.length hY2
                     have h2 := ords_len K f (s ++ [u25.1])
                     rw [List.length_append, List.length_map, List.length_map] at h1
                     rw [hp] at h2
                     rw [Nat.add_mul]; omega)
                  | (have h35 : ¬ okStep K s u25.1 = true := by rw [← sz_succ u25 K s hb]; intro h; rw [show begOk K [] (s ++ [u25.1]) = false from h34] at h; cases h
                     rw [if_neg h35, List.nil_append] at hY
                     exact ⟨hY, by rw [Nat.add_mul]; omega⟩)
              · first | omega | (dsimp only; omega) | (simp only []; omega)
          · refine DO.op rfl rfl rfl (fun k0 hk0 dk0 => OpR.buildSlice (cs := [_]) rfl rfl) ?_
            rintro _ _ ⟨b4, rfl, rfl⟩
            refine DJ.one (i := 1) (by kernel_rfl) ?_
            refine DO.ent (Ent.addLR encI 3 1) ?_
            refine DO.norm [_, _] rfl ?_
            refine DO.op rfl rfl rfl (fun k0 hk0 dk0 => OpR.apA (enc := encI) 1 rfl (RdRow.up hs) rfl (by first | rfl | omega | (simp; done) | (simp; omega) | (simp [upN_len]; omega) | (simp [idxBy_len]; omega) | (simp [marks_len]; omega) | (simp [upN_len]; done) | (simp [idxBy_len]; done) | (simp [marks_len]; done) | (simp at *; omega)) rfl (fun _ => rfl) (by first | rfl | omega | (simp; done) | (simp; omega) | (simp [upN_len]; omega) | (simp [idxBy_len]; omega) | (simp [marks_len]; omega) | (simp [upN_len]; done) | (simp [idxBy_len]; done) | (simp [marks_len]; done) | (simp at *; omega))) ?_
            rintro _ _ ⟨ra27, rc27, rfl, rfl⟩
            refine DJ.norm [_, _, _] [_, _] rfl rfl ?_
            refine DJ.one (i := 5) (by kernel_rfl) ?_
            refine DO.op rfl rfl rfl (fun k0 hk0 dk0 => OpR.apT (enc := encI) [_] 1 0 rfl rfl rfl (by first | rfl | omega | (simp; done) | (simp; omega) | (simp [upN_len]; omega) | (simp [idxBy_len]; omega) | (simp [marks_len]; omega) | (simp [upN_len]; done) | (simp [idxBy_len]; done) | (simp [marks_len]; done) | (simp at *; omega)) rfl rfl rfl rfl rfl (by first | rfl | omega | (simp; done) | (simp; omega) | (simp [upN_len]; omega) | (simp [idxBy_len]; omega) | (simp [marks_len]; omega) | (simp [upN_len]; done) | (simp [idxBy_len]; done) | (simp [marks_len]; done) | (simp at *; omega))) ?_
            rintro _ _ ⟨ra31, rc31, rfl, rfl⟩
            refine DJ.norm [_, _, _] [_, _] rfl rfl ?_
            refine DJ.yd 6 rfl (by kernel_rfl) (by kernel_rfl) (by kernel_rfl) rfl rfl (Yd.asS rfl) ?_
            refine DJ.done (by kernel_rfl) ?_
            refine CJ.seq ?_
            refine CJ.region ?_
            refine LJ.yd rfl (Yd.mvS rfl) ?_
            refine LJ.yd rfl (Yd.mvS rfl) ?_
            refine LJ.callB rfl (fun k hk dk => beginsOrder_ok hK (RdRow.up hl) (Sts.lrm hk dk 4 (by first | rfl | omega | (simp; done) | (simp; omega) | (simp [upN_len]; omega) | (simp [idxBy_len]; omega) | (simp [marks_len]; omega) | (simp [upN_len]; done) | (simp [idxBy_len]; done) | (simp [marks_len]; done) | (simp at *; omega)) (by first | rfl | omega | (simp; done) | (simp; omega) | (simp [upN_len]; omega) | (simp [idxBy_len]; omega) | (simp [marks_len]; omega) | (simp [upN_len]; done) | (simp [idxBy_len]; done) | (simp [marks_len]; done) | (simp at *; omega)) rfl)) (fun h34 => ?_) (fun h34 => ?_)
            · refine LJ.nil ?_
              refine CJ.condT rfl ?_
              refine CJ.region ?_
              refine LJ.yd rfl (Yd.mvS rfl) ?_
              refine LJ.yd rfl (Yd.mvS rfl) ?_
              refine LJ.yd rfl (Yd.mvS rfl) ?_
              refine LJ.call (pickF _ [2, 3, 4]) (pickF _ [0, 1]) rfl (perm_pickF _ [2, 3, 4] [0, 1] rfl) (fun k hk dk => ih _ _ _ (s ++ [u25.1]) _ _ _ _ (by simp; omega) h34 (by have := Nat.mul_le_mul_right p (show kk + 1 ≤ K.length by omega); rw [Nat.add_mul] at this; omega) rfl (RdRow.up hl) (Sts.lrm hk dk 2 (by first | rfl | omega | (simp; done) | (simp; omega) | (simp [upN_len]; omega) | (simp [idxBy_len]; omega) | (simp [marks_len]; omega) | (simp [upN_len]; done) | (simp [idxBy_len]; done) | (simp [marks_len]; done) | (simp at *; omega)) (by first | rfl | omega | (simp; done) | (simp; omega) | (simp [upN_len]; omega) | (simp [idxBy_len]; omega) | (simp [marks_len]; omega) | (simp [upN_len]; done) | (simp [idxBy_len]; done) | (simp [marks_len]; done) | (simp at *; omega)) rfl)) ?_
              rintro _ _ ⟨ra38, rc38, Y2, rfl, rfl, hY2⟩
              refine LJ.norm [_, _, _, _, _] rfl ?_
              refine LJ.yd rfl (Yd.asS rfl) ?_
              refine LJ.nil ?_
              refine CJ.region ?_
              refine LJ.yd rfl (Yd.add rfl rfl (by unfold I64; omega)) ?_
              refine LJ.yd rfl (Yd.mvI rfl) ?_
              refine LJ.nil ?_
              refine ⟨(kk + 1, _, _, _, _), ?_, ⟨rfl, rfl, rfl, rfl, rfl, trivial⟩, ⟨rfl, rfl, trivial⟩, Ent.pick [3, 4] [0, 1, 2] rfl, ?_⟩
              · refine ⟨(by first | rfl | omega | (simp; done) | (simp; omega) | (simp [upN_len]; omega) | (simp [idxBy_len]; omega) | (simp [marks_len]; omega) | (simp [upN_len]; done) | (simp [idxBy_len]; done) | (simp [marks_len]; done) | (simp at *; omega)), ?_⟩
                refine ⟨by omega, ?_⟩
                rw [dropC hu25, List.flatMap_cons] at hY
                first
                  | (have h35 : okStep K s u25.1 = true := by rw [← sz_succ u25 K s hb]; exact h34
                     rw [if_pos h35, ← List.append_assoc] at hY
                     refine ⟨by rw [hY2]; exact hY, ?_⟩
                     have h1 := congrArg List.length hY2
                     have h2 := ords_len K f (s ++ [u25.1])
                     rw [List.length_append, List.length_map, List.length_map] at h1
                     rw [hp] at h2
                     rw [Nat.add_mul]; omega)
                  | (have h35 : ¬ okStep K s u25.1 = true := by rw [← sz_succ u25 K s hb]; intro h; rw [show begOk K [] (s ++ [u25.1]) = false from h34] at h; cases h
                     rw [if_neg h35, List.nil_append] at hY
                     exact ⟨hY, by rw [Nat.add_mul]; omega⟩)
              · first | omega | (dsimp only; omega) | (simp only []; omega)
            · refine LJ.nil ?_
              refine CJ.condF rfl ?_
              refine CJ.skip ?_
              refine CJ.region ?_
              refine LJ.yd rfl (Yd.add rfl rfl (by unfold I64; omega)) ?_
              refine LJ.yd rfl (Yd.mvI rfl) ?_
              refine LJ.nil ?_
              refine ⟨(kk + 1, _, _, _, _), ?_, ⟨rfl, rfl, rfl, rfl, rfl, trivial⟩, ⟨rfl, rfl, trivial⟩, Ent.pick [0, 1] [2, 3, 4] rfl, ?_⟩
              · refine ⟨(by first | rfl | omega | (simp; done) | (simp; omega) | (simp [upN_len]; omega) | (simp [idxBy_len]; omega) | (simp [marks_len]; omega) | (simp [upN_len]; done) | (simp [idxBy_len]; done) | (simp [marks_len]; done) | (simp at *; omega)), ?_⟩
                refine ⟨by omega, ?_⟩
                rw [dropC hu25, List.flatMap_cons] at hY
                first
                  | (have h35 : okStep K s u25.1 = true := by rw [← sz_succ u25 K s hb]; exact h34
                     rw [if_pos h35, ← List.append_assoc] at hY
                     refine ⟨by rw [hY2]; exact hY, ?_⟩
                     have h1 := congrArg List.length hY2
                     have h2 := ords_len K f (s ++ [u25.1])
                     rw [List.length_append, List.length_map, List.length_map] at h1
                     rw [hp] at h2
                     rw [Nat.add_mul]; omega)
                  | (have h35 : ¬ okStep K s u25.1 = true := by rw [← sz_succ u25 K s hb]; intro h; rw [show begOk K [] (s ++ [u25.1]) = false from h34] at h; cases h
                     rw [if_neg h35, List.nil_append] at hY
                     exact ⟨hY, by rw [Nat.add_mul]; omega⟩)
              · first | omega | (dsimp only; omega) | (simp only []; omega)
        · refine LJ.nil ?_
          refine CJ.seq ?_
          refine CJ.condF rfl ?_
          refine CJ.exit ?_
          refine CJ.seq ?_
          refine CJ.region ?_
          refine LJ.yd rfl (Yd.mvS rfl) ?_
          refine LJ.yd rfl (Yd.asS rfl) ?_
          refine LJ.nil ?_
          refine CJ.ret ?_
          exact Fin.R [_, _] (Res.one (ResV.tmp (v := .slice _ _ _) rfl)) ⟨_, _, _, rfl, rfl, by rw [List.drop_of_length_le (by omega)] at hY; simpa using hY⟩ (Ent.pick [0, 1] [] rfl)
/-- all orders of the cuts of a plan, up to five cuts -/
def asP (q : Plan) : List (List Int) := if psz q < 0 ∨ 5 < (knP q).length then [] else ords (knP q) (knP q).length []
theorem AllStepsI_ok {A : Amb} {cs : List Value} {q : Plan} (h : RdPlan A.h cs q) : Ctr Try.prog 24 #[.agg cs.toArray] A [] (RLLP encI 3 1 30 (asP q)) := by
  have hK := knP_ok q
  have hkl := hK.len
  obtain ⟨o, a, p, t, kids, v, css, e, rfl, ho, ha, hp, ⟨⟨sa, sc, rfl, hm, hrow⟩, hlen⟩, hk⟩ := h.inv
  unfold asP
  refine Ctr.body (args := [_]) Try.func24 rfl Try.ntmps24 Try.results24 (by simp) ?_
  refine CJ.seq ?_
  refine CJ.region ?_
  refine LJ.boxG (vs := [_, _, _, _, _]) rfl rfl (fun b1 => ?_)
  refine LJ.yd rfl (Yd.asS rfl) ?_
  refine LJ.nil ?_
  refine CJ.seq ?_
  refine CJ.region ?_
  refine LJ.yd rfl (Yd.loadG (us := [_, _, _, _, _]) 0 rfl rfl rfl rfl) ?_
  refine LJ.call0 rfl (fun k hk dk => knotsOf_ok h.up) ?_
  rintro _ _ ⟨a1, c1, K, hKe, rfl, rfl⟩
  rw [← hKe] at hK hkl ⊢
  refine LJ.norm [_, _] rfl ?_
  refine LJ.yd rfl (Yd.mvU rfl) ?_
  refine LJ.yd rfl (Yd.extract rfl rfl) ?_
  refine LJ.split rfl (Yd.extract rfl rfl) (fun h9 => ?_) (fun h9 => ?_)
  · refine LJ.yd rfl (Yd.asS rfl) ?_
    refine LJ.yd rfl (Yd.asB rfl) ?_
    refine LJ.nil ?_
    refine CJ.seq ?_
    refine CJ.seq ?_
    refine CJ.region ?_
    refine LJ.yd rfl (Yd.mvB rfl) ?_
    refine LJ.yd rfl (Yd.not rfl) ?_
    refine LJ.yd rfl (Yd.mvB rfl) ?_
    refine LJ.gT rfl ?_
    refine LJ.yd rfl (Yd.mvS rfl) ?_
    refine LJ.gT rfl ?_
    refine LJ.yd rfl (Yd.len rfl) ?_
    refine LJ.gT rfl ?_
    refine LJ.splitD rfl (Yd.gtr rfl rfl) (fun h15 => ?_) (fun h15 => ?_)
    · refine LJ.yd rfl (Yd.pickFB rfl rfl) ?_
      refine LJ.nil ?_
      refine CJ.condT rfl ?_
      refine CJ.seq ?_
      refine CJ.region ?_
      refine LJ.yd rfl (Yd.asS rfl) ?_
      refine LJ.nil ?_
      refine CJ.ret ?_
      first
        | (rw [if_pos (by first | exact .inl (by simpa using h9) | exact .inr (by omega))]
           exact Fin.R [_, _] (Res.one (ResV.tmp (v := .slice _ _ _) rfl)) ⟨none, 0, [], rfl, rfl, rfl⟩ (Ent.thn (Ent.thn (Ent.pick [] [0, 1] rfl) (Ent.addLR (α := Rw Int) encR 30 1)) (INN.ent _)))
    · refine LJ.yd rfl (Yd.pickFB rfl rfl) ?_
      refine LJ.nil ?_
      refine CJ.condF rfl ?_
      refine CJ.skip ?_
      refine CJ.seq ?_
      have hK5 : K.length ^ K.length ≤ 100000 := by
        have h1 : K.length ≤ 5 := by omega
        have h2 : ∀ n ≤ 5, n ^ n ≤ 100000 := by decide
        exact h2 _ h1
      refine CJ.ent (Ent.addLR (α := Rw Int) encR 30 1) ?_
      refine CJ.norm [_, _, _] rfl ?_
      refine CJ.ent (INN.ent (rowOf encI 3 1)) ?_
      refine CJ.norm [_, _, _, _] rfl ?_
      refine CJ.region ?_
      refine LJ.yd rfl (Yd.mvS rfl) ?_
      refine LJ.call (pickF _ [0, 1]) (pickF _ [2, 3]) rfl (perm_pickF _ [0, 1] [2, 3] rfl) (fun k hk dk => addOrders_ok hK (by omega) K.length _ _ _ [] [] _ _ _ (by simp) rfl (by simp; exact hK5) rfl (Sts.lrm hk dk 1 (by first | rfl | omega | (simp; done) | (simp; omega) | (simp [upN_len]; omega) | (simp [idxBy_len]; omega) | (simp [marks_len]; omega) | (simp [upN_len]; done) | (simp [idxBy_len]; done) | (simp [marks_len]; done) | (simp at *; omega)) (by first | rfl | omega | (simp; done) | (simp; omega) | (simp [upN_len]; omega) | (simp [idxBy_len]; omega) | (simp [marks_len]; omega) | (simp [upN_len]; done) | (simp [idxBy_len]; done) | (simp [marks_len]; done) | (simp at *; omega)) rfl) (RdL.nil _ _ _ _)) ?_
      rintro _ _ ⟨ra18, rc18, Y2, rfl, rfl, hY2⟩
      refine LJ.norm [_, _, _, _] rfl ?_
      refine LJ.yd rfl (Yd.asS rfl) ?_
      refine LJ.nil ?_
      refine CJ.ret ?_
      rw [if_neg (by rintro (h | h) <;> first | omega | (simp at h9; omega))]
      exact Fin.R [_, _] (Res.one (ResV.tmp (v := .slice _ _ _) rfl)) ⟨_, _, _, rfl, rfl, by simpa using hY2⟩ (Ent.pick [2, 3] [0, 1] rfl)
  · refine LJ.yd rfl (Yd.asS rfl) ?_
    refine LJ.yd rfl (Yd.asB rfl) ?_
    refine LJ.nil ?_
    refine CJ.seq ?_
    refine CJ.seq ?_
    refine CJ.region ?_
    refine LJ.yd rfl (Yd.mvB rfl) ?_
    refine LJ.yd rfl (Yd.not rfl) ?_
    refine LJ.yd rfl (Yd.mvB rfl) ?_
    refine LJ.gF rfl rfl ?_
    refine LJ.gF rfl rfl ?_
    refine LJ.gF rfl rfl ?_
    refine LJ.yd rfl (Yd.pickTB rfl rfl) ?_
    refine LJ.nil ?_
    refine CJ.condT rfl ?_
    refine CJ.seq ?_
    refine CJ.region ?_
    refine LJ.yd rfl (Yd.asS rfl) ?_
    refine LJ.nil ?_
    refine CJ.ret ?_
    first
      | (rw [if_pos (by first | exact .inl (by simpa using h9) | exact .inr (by omega))]
         exact Fin.R [_, _] (Res.one (ResV.tmp (v := .slice _ _ _) rfl)) ⟨none, 0, [], rfl, rfl, rfl⟩ (Ent.thn (Ent.thn (Ent.pick [] [0, 1] rfl) (Ent.addLR (α := Rw Int) encR 30 1)) (INN.ent _)))
theorem okStep_at {K : List (Int × Int)} (hK : KOk K) {q : Int × Int} (hq : q ∈ K) {s : List Int} : okStep K s q.1 = true ↔ plc q.1 s 0 < 0 ∧ (q.2 < 0 ∨ 0 ≤ plc q.2 s 0) := by
  rw [okStep_iff, abv_mem hK.asc hq, plc_mem, ← Int.not_lt, plc_mem, Classical.not_not]
  exact ⟨fun h => h.2, fun h => ⟨List.mem_map_of_mem hq, h⟩⟩
theorem pow_small {n m : Nat} (hn : n ≤ 5) (hm : m ≤ 5) : n ^ m ≤ 100000 := by
  have h : ∀ n ≤ 5, ∀ m ≤ 5, n ^ m ≤ 100000 := by decide
  exact h n hn m hm
theorem allSteps_ok {b : BT} (hz : b.sz ≤ 255) (hk5 : (b.knots 0 (-1)).length ≤ 5) : ∀ (f : Nat) (A : Amb) (cs : List Value) (w : Value) (s : List Int), f + s.length = (b.knots 0 (-1)).length → RdT A.h cs b → RdL encI 1 A.h w s →
    Ctr Try.prog 66 #[.agg cs.toArray, w] A [] (RLLP encI 3 1 30 (ords (b.knots 0 (-1)) f s)) := by
  have hK := BT.kok hz
  generalize hKe : b.knots 0 (-1) = K at *
  intro f
  induction f with
  | zero =>
    intro A cs w s hf h hs
    obtain ⟨o, a, p, t, x, n, c, rfl⟩ := h.i64
    obtain ⟨wa, wc, rfl, hsb, hs⟩ := hs.un
    refine Ctr.body (args := [_, _]) Try.func66 rfl Try.ntmps66 Try.results66 (by simp) ?_
    refine CJ.seq ?_
    refine CJ.region ?_
    refine LJ.boxG (vs := [_, _, _, _, _]) rfl rfl (fun b1 => ?_)
    refine LJ.yd rfl (Yd.asS rfl) ?_
    refine LJ.nil ?_
    refine CJ.seq ?_
    refine CJ.region ?_
    refine LJ.yd rfl (Yd.loadG (us := [_, _, _, _, _]) 0 rfl rfl rfl rfl) ?_
    refine LJ.call0 rfl (fun k hk dk => hKe ▸ innerNodes_ok b _ _ _ (-1) (by omega) (by omega) (by omega) hz h.up) ?_
    rintro _ _ ⟨ra10, rc10, rfl, rfl⟩
    refine LJ.norm [_, _] rfl ?_
    refine LJ.yd rfl (Yd.asS rfl) ?_
    refine LJ.nil ?_
    refine CJ.seq ?_
    refine CJ.region ?_
    refine LJ.yd rfl (Yd.loadG (us := [_, _, _, _, _]) 0 rfl rfl rfl rfl) ?_
    refine LJ.call0 rfl (fun k hk dk => hKe ▸ aboves_ok b _ _ _ (-1) (by omega) (by omega) (by omega) hz h.up) ?_
    rintro _ _ ⟨ra12, rc12, rfl, rfl⟩
    refine LJ.norm [_, _, _] rfl ?_
    refine LJ.yd rfl (Yd.asS rfl) ?_
    refine LJ.nil ?_
    refine CJ.seq ?_
    refine CJ.seq ?_
    refine CJ.region ?_
    refine LJ.yd rfl (Yd.mvS rfl) ?_
    refine LJ.yd rfl (Yd.len rfl) ?_
    refine LJ.yd rfl (Yd.mvS rfl) ?_
    refine LJ.yd rfl (Yd.len rfl) ?_
    refine LJ.splitD rfl (Yd.eql rfl rfl) (fun h17 => ?_) (fun h17 => ?_)
    · refine LJ.nil ?_
      refine CJ.condT rfl ?_
      refine CJ.seq ?_
      refine CJ.region ?_
      refine LJ.yd rfl (Yd.mvS rfl) ?_
      refine LJ.call0 rfl (fun k hk dk => copyInts_ok (RdRow.up hs) (by omega)) ?_
      rintro _ _ ⟨ra19, rc19, rfl, rfl⟩
      refine LJ.norm [_, _, _, _] rfl ?_
      refine LJ.op rfl (OpR.buildSlice (cs := [_]) rfl rfl) ?_
      rintro _ _ ⟨b5, rfl, rfl⟩
      refine LJ.yd rfl (Yd.asS rfl) ?_
      refine LJ.nil ?_
      refine CJ.ret ?_
      exact Fin.R [_, _] (Res.one (ResV.tmp (v := .slice _ _ _) rfl)) ⟨_, _, [⟨_, _, _⟩], rfl, rfl, rfl⟩ (Ent.thn (Ent.impAt 4 rfl (fun _ h => Cel.lr (enc := encR) (k := 1) (m := 1) [(⟨_, _, _⟩ : Rw Int)] rfl rfl rfl rfl h)) (Ent.thn (INN.ent (rowOf encI 3 1)) (Ent.pickFold [4] [5, 3] [0, 1, 2] rfl (fun _ s => INN.snoc (f := (rowOf encI 3 1)) (u := ⟨_, _, _⟩) s))))
    · exfalso; simp at h17; omega
  | succ f ih =>
    intro A cs w s hf h hs
    obtain ⟨o, a, p, t, x, n, c, rfl⟩ := h.i64
    obtain ⟨wa, wc, rfl, hsb, hs⟩ := hs.un
    have hbig : (ords K (f + 1) s).length ≤ 100000 := Nat.le_trans (ords_len K (f + 1) s) (pow_small hk5 (by omega))
    refine Ctr.body (args := [_, _]) Try.func66 rfl Try.ntmps66 Try.results66 (by simp) ?_
    refine CJ.seq ?_
    refine CJ.region ?_
    refine LJ.boxG (vs := [_, _, _, _, _]) rfl rfl (fun b1 => ?_)
    refine LJ.yd rfl (Yd.asS rfl) ?_
    refine LJ.nil ?_
    refine CJ.seq ?_
    refine CJ.region ?_
    refine LJ.yd rfl (Yd.loadG (us := [_, _, _, _, _]) 0 rfl rfl rfl rfl) ?_
    refine LJ.call0 rfl (fun k hk dk => hKe ▸ innerNodes_ok b _ _ _ (-1) (by omega) (by omega) (by omega) hz h.up) ?_
    rintro _ _ ⟨ra10, rc10, rfl, rfl⟩
    refine LJ.norm [_, _] rfl ?_
    refine LJ.yd rfl (Yd.asS rfl) ?_
    refine LJ.nil ?_
    refine CJ.seq ?_
    refine CJ.region ?_
    refine LJ.yd rfl (Yd.loadG (us := [_, _, _, _, _]) 0 rfl rfl rfl rfl) ?_
    refine LJ.call0 rfl (fun k hk dk => hKe ▸ aboves_ok b _ _ _ (-1) (by omega) (by omega) (by omega) hz h.up) ?_
    rintro _ _ ⟨ra12, rc12, rfl, rfl⟩
    refine LJ.norm [_, _, _] rfl ?_
    refine LJ.yd rfl (Yd.asS rfl) ?_
    refine LJ.nil ?_
    refine CJ.seq ?_
    refine CJ.seq ?_
    refine CJ.region ?_
    refine LJ.yd rfl (Yd.mvS rfl) ?_
    refine LJ.yd rfl (Yd.len rfl) ?_
    refine LJ.yd rfl (Yd.mvS rfl) ?_
    refine LJ.yd rfl (Yd.len rfl) ?_
    refine LJ.splitD rfl (Yd.eql rfl rfl) (fun h17 => ?_) (fun h17 => ?_)
    · exfalso; simp at h17; omega
    · refine LJ.nil ?_
      refine CJ.condF rfl ?_
      refine CJ.skip ?_
      refine CJ.seq ?_
      refine CJ.region ?_
      refine LJ.op rfl (OpR.buildSlice (cs := []) rfl rfl) ?_
      rintro _ _ ⟨b4, rfl, rfl⟩
      refine LJ.yd rfl (Yd.asS rfl) ?_
      refine LJ.nil ?_
      refine CJ.seq ?_
      refine CJ.seq ?_
      refine CJ.region ?_
      refine LJ.yd rfl (Yd.asI rfl) ?_
      refine LJ.nil ?_
      refine CJ.block ?_
      refine CJ.imp1 3 rfl (fun _ h => Cel.lr (enc := (encR (α := Int))) (k := 1) (m := 0) [] rfl rfl rfl rfl h) ?_
      refine CJ.norm [_, _, _, _] rfl ?_
      refine CJ.ent (INN.ent (rowOf encI 3 1)) ?_
      refine CJ.norm [_, _, _, _, _] rfl ?_
      refine CJ.loopF [1, 2, 4, 5, 6] (Nat × List (Rw Int) × Option Addr × Nat × Nat) (fun ⟨kk, Y, YA, YN, YC⟩ => (YN = Y.length) ∧ kk ≤ K.length ∧ Y.map Rw.l ++ (K.drop kk).flatMap (fun q => if okStep K s q.1 = true then ords K f (s ++ [q.1]) else []) = ords K (f + 1) s) (fun ⟨kk, Y, YA, YN, YC⟩ => [(8, vI kk), (7, .slice YA YN YC)]) (fun ⟨kk, Y, YA, YN, YC⟩ => [LR encR 30 1 YA YC Y, INN (rowOf encI 3 1) Y]) (fun ⟨kk, Y, YA, YN, YC⟩ => K.length - kk) (0, [], _, _, _) [_, _, _] [0, 1, 2] [3, 4] rfl rfl rfl ?_ ⟨rfl, rfl, trivial⟩ ?_
      · exact ⟨(by first | rfl | omega | (simp; done) | (simp; omega) | (simp [upN_len]; omega) | (simp [idxBy_len]; omega) | (simp [marks_len]; omega) | (simp [upN_len]; done) | (simp [idxBy_len]; done) | (simp [marks_len]; done) | (simp at *; omega)), ⟨by omega, rfl⟩⟩
      · rintro ⟨kk, Y, YA, YN, YC⟩ σ ⟨hlNY, ⟨hk1, hY⟩⟩
        subst hlNY
        refine CJ.norm [_, _, _, _, _] rfl ?_
        refine CJ.seq ?_
        refine CJ.seq ?_
        refine CJ.region ?_
        refine LJ.yd rfl (Yd.mvI rfl) ?_
        refine LJ.yd rfl (Yd.mvS rfl) ?_
        refine LJ.yd rfl (Yd.len rfl) ?_
        refine LJ.splitD rfl (Yd.lss rfl rfl) (fun h25 => ?_) (fun h25 => ?_)
        · refine LJ.nil ?_
          refine CJ.condT rfl ?_
          refine CJ.skip ?_
          refine CJ.seq ?_
          refine CJ.block ?_
          refine CJ.seq ?_
          obtain ⟨q, hq⟩ := someC (l := K) (j := kk) (by simp at h25; omega)
          refine CJ.region ?_
          refine LJ.yd rfl (Yd.mvS rfl) ?_
          refine LJ.yd rfl (Yd.mvS rfl) ?_
          refine LJ.yd rfl (Yd.mvI rfl) ?_
          refine LJ.idxR 1 rfl rfl rfl rfl (by omega) (by first | rfl | omega | (simp; done) | (simp; omega) | (simp [upN_len]; omega) | (simp [idxBy_len]; omega) | (simp [marks_len]; omega) | (simp [upN_len]; done) | (simp [idxBy_len]; done) | (simp [marks_len]; done) | (simp at *; omega)) (by first | rfl | omega | (simp; done) | (simp; omega) | (simp [upN_len]; omega) | (simp [idxBy_len]; omega) | (simp [marks_len]; omega) | (simp [upN_len]; done) | (simp [idxBy_len]; done) | (simp [marks_len]; done) | (simp at *; omega)) (fun ib31 ia31 => ?_)
          refine LJ.ldR 1 0 (fun u => vI u) (fun _ => rfl) rfl ia31 rfl rfl rfl (by first | rfl | omega | (simp; done) | (simp; omega) | (simp [upN_len]; omega) | (simp [idxBy_len]; omega) | (simp [marks_len]; omega) | (simp [upN_len]; done) | (simp [idxBy_len]; done) | (simp [marks_len]; done) | (simp at *; omega)) (fun u32 hu32 => ?_)
          try simp only [Int.toNat_natCast] at hu32
          rw [List.getElem?_map, hq] at hu32
          obtain rfl : q.1 = u32 := Option.some.inj hu32
          refine LJ.callV rfl (fun k hk dk => placeIn_ok (RdRow.up hs)) ?_
          refine LJ.splitD rfl (Yd.lss rfl rfl) (fun h34 => ?_) (fun h34 => ?_)
          · refine LJ.yd rfl (Yd.mvB rfl) ?_
            refine LJ.gT rfl ?_
            refine LJ.yd rfl (Yd.mvS rfl) ?_
            refine LJ.gT rfl ?_
            refine LJ.yd rfl (Yd.mvI rfl) ?_
            refine LJ.gT rfl ?_
            refine LJ.idxR 2 rfl rfl rfl rfl (by omega) (by first | rfl | omega | (simp; done) | (simp; omega) | (simp [upN_len]; omega) | (simp [idxBy_len]; omega) | (simp [marks_len]; omega) | (simp [upN_len]; done) | (simp [idxBy_len]; done) | (simp [marks_len]; done) | (simp at *; omega)) (by first | rfl | omega | (simp; done) | (simp; omega) | (simp [upN_len]; omega) | (simp [idxBy_len]; omega) | (simp [marks_len]; omega) | (simp [upN_len]; done) | (simp [idxBy_len]; done) | (simp [marks_len]; done) | (simp at *; omega)) (fun ib38 ia38 => ?_)
            refine LJ.gT rfl ?_
            refine LJ.ldR 2 0 (fun u => vI u) (fun _ => rfl) rfl ia38 rfl rfl rfl (by first | rfl | omega | (simp; done) | (simp; omega) | (simp [upN_len]; omega) | (simp [idxBy_len]; omega) | (simp [marks_len]; omega) | (simp [upN_len]; done) | (simp [idxBy_len]; done) | (simp [marks_len]; done) | (simp at *; omega)) (fun u39 hu39 => ?_)
            try simp only [Int.toNat_natCast] at hu39
            rw [List.getElem?_map, hq] at hu39
            obtain rfl : q.2 = u39 := Option.some.inj hu39
            refine LJ.gT rfl ?_
            refine LJ.splitD rfl (Yd.lss rfl rfl) (fun h40 => ?_) (fun h40 => ?_)
            · refine LJ.gT rfl ?_
              refine LJ.yd rfl (Yd.mvB rfl) ?_
              refine LJ.gF rfl rfl ?_
              refine LJ.gF rfl rfl ?_
              refine LJ.gF rfl rfl ?_
              refine LJ.gF rfl rfl ?_
              refine LJ.gF rfl rfl ?_
              refine LJ.gF rfl rfl ?_
              refine LJ.gF rfl rfl ?_
              refine LJ.gT rfl ?_
              refine LJ.yd rfl (Yd.pickTB rfl rfl) ?_
              refine LJ.yd rfl (Yd.pickTB rfl rfl) ?_
              refine LJ.nil ?_
              refine CJ.condT rfl ?_
              refine CJ.regionD [0, 1, 2] [3, 4] (by kernel_rfl) rfl ?_
              refine DJ.norm [_, _, _] [_, _] rfl rfl ?_
              refine DJ.yd 0 rfl (by kernel_rfl) (by kernel_rfl) (by kernel_rfl) rfl rfl (Yd.mvS rfl) ?_
              refine DJ.yd 1 rfl (by kernel_rfl) (by kernel_rfl) (by kernel_rfl) rfl rfl (Yd.loadG (us := [_, _, _, _, _]) 0 rfl rfl rfl rfl) ?_
              refine DJ.yd 2 rfl (by kernel_rfl) (by kernel_rfl) (by kernel_rfl) rfl rfl (Yd.mvS rfl) ?_
              refine DJ.yd 4 rfl (by kernel_rfl) (by kernel_rfl) (by kernel_rfl) rfl rfl (Yd.mvS rfl) ?_
              refine DJ.yd 5 rfl (by kernel_rfl) (by kernel_rfl) (by kernel_rfl) rfl rfl (Yd.mvI rfl) ?_
              refine DJ.idxF 1 rfl 6 rfl (by kernel_rfl) (by kernel_rfl) (by kernel_rfl) rfl rfl rfl rfl (by omega) (by first | rfl | omega | (simp; done) | (simp; omega) | (simp [upN_len]; omega) | (simp [idxBy_len]; omega) | (simp [marks_len]; omega) | (simp [upN_len]; done) | (simp [idxBy_len]; done) | (simp [marks_len]; done) | (simp at *; omega)) (by first | rfl | omega | (simp; done) | (simp; omega) | (simp [upN_len]; omega) | (simp [idxBy_len]; omega) | (simp [marks_len]; omega) | (simp [upN_len]; done) | (simp [idxBy_len]; done) | (simp [marks_len]; done) | (simp at *; omega)) (fun ib57 ia57 => ?_)
              refine DJ.ldF 7 rfl (by kernel_rfl) (by kernel_rfl) (by kernel_rfl) rfl rfl 1 0 (fun u => vI u) (fun _ => rfl) rfl ia57 rfl rfl (by first | rfl | omega | (simp; done) | (simp; omega) | (simp [upN_len]; omega) | (simp [idxBy_len]; omega) | (simp [marks_len]; omega) | (simp [upN_len]; done) | (simp [idxBy_len]; done) | (simp [marks_len]; done) | (simp at *; omega)) (fun u58 hu58 => ?_)
              try simp only [Int.toNat_natCast] at hu58
              rw [List.getElem?_map, hq] at hu58
              obtain rfl : q.1 = u58 := Option.some.inj hu58
              refine DJ.two (i := 3) (j := 8) (by kernel_rfl) ?_ ?_
              · refine DO.call0 rfl rfl rfl (fun k0 hk0 dk0 k hk dk => copyInts_ok (RdRow.up hs) (by omega)) ?_
                rintro _ _ ⟨ra54, rc54, rfl, rfl⟩
                refine DJ.norm [_, _, _] [_, _, _] rfl rfl ?_
                refine DJ.one (i := 8) (by kernel_rfl) ?_
                refine DO.op rfl rfl rfl (fun k0 hk0 dk0 => OpR.buildSlice (cs := [_]) rfl rfl) ?_
                rintro _ _ ⟨b7, rfl, rfl⟩
                refine DJ.one (i := 9) (by kernel_rfl) ?_
                refine DO.op rfl rfl rfl (fun k0 hk0 dk0 => OpR.apT (enc := encI) [_] 2 3 rfl rfl rfl (by first | rfl | omega | (simp; done) | (simp; omega) | (simp [upN_len]; omega) | (simp [idxBy_len]; omega) | (simp [marks_len]; omega) | (simp [upN_len]; done) | (simp [idxBy_len]; done) | (simp [marks_len]; done) | (simp at *; omega)) rfl rfl rfl rfl rfl (by first | rfl | omega | (simp; done) | (simp; omega) | (simp [upN_len]; omega) | (simp [idxBy_len]; omega) | (simp [marks_len]; omega) | (simp [upN_len]; done) | (simp [idxBy_len]; done) | (simp [marks_len]; done) | (simp at *; omega))) ?_
                rintro _ _ ⟨ra60, rc60, rfl, rfl⟩
                refine DJ.norm [_, _, _] [_, _, _, _] rfl rfl ?_
                refine DJ.one (i := 10) (by kernel_rfl) ?_
                refine DO.call0 rfl rfl rfl (fun k0 hk0 dk0 k hk dk => ih _ _ _ (s ++ [q.1]) (by simp; omega) h.up (Sts.lrm hk dk 2 (by first | rfl | omega | (simp; done) | (simp; omega) | (simp [upN_len]; omega) | (simp [idxBy_len]; omega) | (simp [marks_len]; omega) | (simp [upN_len]; done) | (simp [idxBy_len]; done) | (simp [marks_len]; done) | (simp at *; omega)) (by first | rfl | omega | (simp; done) | (simp; omega) | (simp [upN_len]; omega) | (simp [idxBy_len]; omega) | (simp [marks_len]; omega) | (simp [upN_len]; done) | (simp [idxBy_len]; done) | (simp [marks_len]; done) | (simp at *; omega)) rfl)) ?_
                rintro _ _ ⟨ra61, rc61, Y2, rfl, rfl, hY2⟩
                have hY3 : Y.length + Y2.length ≤ 1000000 := by
                  have h1 := congrArg List.length hY2
                  have h2 := ords_len K f (s ++ [q.1])
                  have h3 := pow_small hk5 (show f ≤ 5 by omega)
                  rw [List.length_map] at h1
                  have h4 := congrArg List.length hY
                  rw [List.length_append, List.length_map] at h4
                  omega
                refine DJ.norm [_, _, _] [_, _, _, _, _, _] rfl rfl ?_
                refine DJ.one (i := 11) (by kernel_rfl) ?_
                refine DO.op rfl rfl rfl (fun k0 hk0 dk0 => OpR.apR (enc := encR) 0 4 rfl rfl rfl (by first | rfl | omega | (simp; done) | (simp; omega) | (simp [upN_len]; omega) | (simp [idxBy_len]; omega) | (simp [marks_len]; omega) | (simp [upN_len]; done) | (simp [idxBy_len]; done) | (simp [marks_len]; done) | (simp at *; omega)) rfl (by first | rfl | omega | (simp; done) | (simp; omega) | (simp [upN_len]; omega) | (simp [idxBy_len]; omega) | (simp [marks_len]; omega) | (simp [upN_len]; done) | (simp [idxBy_len]; done) | (simp [marks_len]; done) | (simp at *; omega)) (fun _ => rfl) (by first | rfl | omega | (simp; done) | (simp; omega) | (simp [upN_len]; omega) | (simp [idxBy_len]; omega) | (simp [marks_len]; omega) | (simp [upN_len]; done) | (simp [idxBy_len]; done) | (simp [marks_len]; done) | (simp at *; omega))) ?_
                rintro _ _ ⟨ra62, rc62, rfl, rfl⟩
                refine DJ.norm [_, _, _] [_, _, _, _, _, _] rfl rfl ?_
                refine DJ.ent (fun _ => Ent.pickFold [0, 2, 3, 4] [1, 5] [] rfl (fun _ s => INN.join (f := (rowOf encI 3 1)) s)) ?_
                refine DJ.norm [_, _, _] [_, _, _, _, _] rfl rfl ?_
                refine DJ.yd 12 rfl (by kernel_rfl) (by kernel_rfl) (by kernel_rfl) rfl rfl (Yd.asS rfl) ?_
                refine DJ.done (by kernel_rfl) ?_
                refine CJ.region ?_
                refine LJ.yd rfl (Yd.mvI rfl) ?_
                refine LJ.yd rfl (Yd.add rfl rfl (by unfold I64; omega)) ?_
                refine LJ.yd rfl (Yd.asI rfl) ?_
                refine LJ.nil ?_
                refine ⟨(kk + 1, _, _, _, _), ?_, ⟨rfl, rfl, rfl, rfl, rfl, trivial⟩, ⟨rfl, rfl, trivial⟩, Ent.pick [0, 1, 2, 3, 7] [4, 5, 6] rfl, ?_⟩
                · refine ⟨(by first | rfl | omega | (simp; done) | (simp; omega) | (simp [upN_len]; omega) | (simp [idxBy_len]; omega) | (simp [marks_len]; omega) | (simp [upN_len]; done) | (simp [idxBy_len]; done) | (simp [marks_len]; done) | (simp at *; omega)), ?_⟩
                  have hkl2 : kk < K.length := by simp at h25; omega
                  refine ⟨by omega, ?_⟩
                  rw [dropC hq, List.flatMap_cons] at hY
                  have hoq := okStep_at hK (List.mem_of_getElem? hq) (s := s)
                  first
                    | (rw [if_pos (hoq.2 ⟨h34, by first | exact .inl h40 | exact .inr h48⟩), ← List.append_assoc] at hY
                       rw [List.map_append, hY2]; exact hY)
                    | (rw [if_neg (fun h => by have := hoq.1 h; omega), List.nil_append] at hY
                       exact hY)
                · simp at h25; show K.length - (kk + 1) < K.length - kk; omega
              · refine DO.op rfl rfl rfl (fun k0 hk0 dk0 => OpR.buildSlice (cs := [_]) rfl rfl) ?_
                rintro _ _ ⟨b8, rfl, rfl⟩
                refine DJ.one (i := 3) (by kernel_rfl) ?_
                refine DO.call0 rfl rfl rfl (fun k0 hk0 dk0 k hk dk => copyInts_ok (RdRow.up hs) (by omega)) ?_
                rintro _ _ ⟨ra54, rc54, rfl, rfl⟩
                refine DJ.norm [_, _, _] [_, _, _, _] rfl rfl ?_
                refine DJ.one (i := 9) (by kernel_rfl) ?_
                refine DO.op rfl rfl rfl (fun k0 hk0 dk0 => OpR.apT (enc := encI) [_] 3 2 rfl rfl rfl (by first | rfl | omega | (simp; done) | (simp; omega) | (simp [upN_len]; omega) | (simp [idxBy_len]; omega) | (simp [marks_len]; omega) | (simp [upN_len]; done) | (simp [idxBy_len]; done) | (simp [marks_len]; done) | (simp at *; omega)) rfl rfl rfl rfl rfl (by first | rfl | omega | (simp; done) | (simp; omega) | (simp [upN_len]; omega) | (simp [idxBy_len]; omega) | (simp [marks_len]; omega) | (simp [upN_len]; done) | (simp [idxBy_len]; done) | (simp [marks_len]; done) | (simp at *; omega))) ?_
                rintro _ _ ⟨ra60, rc60, rfl, rfl⟩
                refine DJ.norm [_, _, _] [_, _, _, _] rfl rfl ?_
                refine DJ.one (i := 10) (by kernel_rfl) ?_
                refine DO.call0 rfl rfl rfl (fun k0 hk0 dk0 k hk dk => ih _ _ _ (s ++ [q.1]) (by simp; omega) h.up (Sts.lrm hk dk 3 (by first | rfl | omega | (simp; done) | (simp; omega) | (simp [upN_len]; omega) | (simp [idxBy_len]; omega) | (simp [marks_len]; omega) | (simp [upN_len]; done) | (simp [idxBy_len]; done) | (simp [marks_len]; done) | (simp at *; omega)) (by first | rfl | omega | (simp; done) | (simp; omega) | (simp [upN_len]; omega) | (simp [idxBy_len]; omega) | (simp [marks_len]; omega) | (simp [upN_len]; done) | (simp [idxBy_len]; done) | (simp [marks_len]; done) | (simp at *; omega)) rfl)) ?_
                rintro _ _ ⟨ra61, rc61, Y2, rfl, rfl, hY2⟩
                have hY3 : Y.length + Y2.length ≤ 1000000 := by
                  have h1 := congrArg List.length hY2
                  have h2 := ords_len K f (s ++ [q.1])
                  have h3 := pow_small hk5 (show f ≤ 5 by omega)
                  rw [List.length_map] at h1
                  have h4 := congrArg List.length hY
                  rw [List.length_append, List.length_map] at h4
                  omega
                refine DJ.norm [_, _, _] [_, _, _, _, _, _] rfl rfl ?_
                refine DJ.one (i := 11) (by kernel_rfl) ?_
                refine DO.op rfl rfl rfl (fun k0 hk0 dk0 => OpR.apR (enc := encR) 0 4 rfl rfl rfl (by first | rfl | omega | (simp; done) | (simp; omega) | (simp [upN_len]; omega) | (simp [idxBy_len]; omega) | (simp [marks_len]; omega) | (simp [upN_len]; done) | (simp [idxBy_len]; done) | (simp [marks_len]; done) | (simp at *; omega)) rfl (by first | rfl | omega | (simp; done) | (simp; omega) | (simp [upN_len]; omega) | (simp [idxBy_len]; omega) | (simp [marks_len]; omega) | (simp [upN_len]; done) | (simp [idxBy_len]; done) | (simp [marks_len]; done) | (simp at *; omega)) (fun _ => rfl) (by first | rfl | omega | (simp; done) | (simp; omega) | (simp [upN_len]; omega) | (simp [idxBy_len]; omega) | (simp [marks_len]; omega) | (simp [upN_len]; done) | (simp [idxBy_len]; done) | (simp [marks_len]; done) | (simp at *; omega))) ?_
                rintro _ _ ⟨ra62, rc62, rfl, rfl⟩
                refine DJ.norm [_, _, _] [_, _, _, _, _, _] rfl rfl ?_
                refine DJ.ent (fun _ => Ent.pickFold [0, 2, 3, 4] [1, 5] [] rfl (fun _ s => INN.join (f := (rowOf encI 3 1)) s)) ?_
                refine DJ.norm [_, _, _] [_, _, _, _, _] rfl rfl ?_
                refine DJ.yd 12 rfl (by kernel_rfl) (by kernel_rfl) (by kernel_rfl) rfl rfl (Yd.asS rfl) ?_
                refine DJ.done (by kernel_rfl) ?_
                refine CJ.region ?_
                refine LJ.yd rfl (Yd.mvI rfl) ?_
                refine LJ.yd rfl (Yd.add rfl rfl (by unfold I64; omega)) ?_
                refine LJ.yd rfl (Yd.asI rfl) ?_
                refine LJ.nil ?_
                refine ⟨(kk + 1, _, _, _, _), ?_, ⟨rfl, rfl, rfl, rfl, rfl, trivial⟩, ⟨rfl, rfl, trivial⟩, Ent.pick [0, 1, 2, 3, 7] [4, 5, 6] rfl, ?_⟩
                · refine ⟨(by first | rfl | omega | (simp; done) | (simp; omega) | (simp [upN_len]; omega) | (simp [idxBy_len]; omega) | (simp [marks_len]; omega) | (simp [upN_len]; done) | (simp [idxBy_len]; done) | (simp [marks_len]; done) | (simp at *; omega)), ?_⟩
                  have hkl2 : kk < K.length := by simp at h25; omega
                  refine ⟨by omega, ?_⟩
                  rw [dropC hq, List.flatMap_cons] at hY
                  have hoq := okStep_at hK (List.mem_of_getElem? hq) (s := s)
                  first
                    | (rw [if_pos (hoq.2 ⟨h34, by first | exact .inl h40 | exact .inr h48⟩), ← List.append_assoc] at hY
                       rw [List.map_append, hY2]; exact hY)
                    | (rw [if_neg (fun h => by have := hoq.1 h; omega), List.nil_append] at hY
                       exact hY)
                · simp at h25; show K.length - (kk + 1) < K.length - kk; omega
            · refine LJ.gT rfl ?_
              refine LJ.yd rfl (Yd.mvB rfl) ?_
              refine LJ.gT rfl ?_
              refine LJ.yd rfl (Yd.mvS rfl) ?_
              refine LJ.gT rfl ?_
              refine LJ.yd rfl (Yd.mvS rfl) ?_
              refine LJ.gT rfl ?_
              refine LJ.yd rfl (Yd.mvI rfl) ?_
              refine LJ.gT rfl ?_
              refine LJ.idxR 2 rfl rfl rfl rfl (by omega) (by first | rfl | omega | (simp; done) | (simp; omega) | (simp [upN_len]; omega) | (simp [idxBy_len]; omega) | (simp [marks_len]; omega) | (simp [upN_len]; done) | (simp [idxBy_len]; done) | (simp [marks_len]; done) | (simp at *; omega)) (by first | rfl | omega | (simp; done) | (simp; omega) | (simp [upN_len]; omega) | (simp [idxBy_len]; omega) | (simp [marks_len]; omega) | (simp [upN_len]; done) | (simp [idxBy_len]; done) | (simp [marks_len]; done) | (simp at *; omega)) (fun ib45 ia45 => ?_)
              refine LJ.gT rfl ?_
              refine LJ.ldR 2 0 (fun u => vI u) (fun _ => rfl) rfl ia45 rfl rfl rfl (by first | rfl | omega | (simp; done) | (simp; omega) | (simp [upN_len]; omega) | (simp [idxBy_len]; omega) | (simp [marks_len]; omega) | (simp [upN_len]; done) | (simp [idxBy_len]; done) | (simp [marks_len]; done) | (simp at *; omega)) (fun u46 hu46 => ?_)
              try simp only [Int.toNat_natCast] at hu46
              rw [List.getElem?_map, hq] at hu46
              obtain rfl : q.2 = u46 := Option.some.inj hu46
              refine LJ.gT rfl ?_
              refine LJ.callV rfl (fun k hk dk => placeIn_ok (RdRow.up hs)) ?_
              refine LJ.gT rfl ?_
              refine LJ.splitD rfl (Yd.geq rfl rfl) (fun h48 => ?_) (fun h48 => ?_)
              · refine LJ.gT rfl ?_
                refine LJ.yd rfl (Yd.pickFB rfl rfl) ?_
                refine LJ.yd rfl (Yd.pickTB rfl rfl) ?_
                refine LJ.nil ?_
                refine CJ.condT rfl ?_
                refine CJ.regionD [0, 1, 2] [3, 4] (by kernel_rfl) rfl ?_
                refine DJ.norm [_, _, _] [_, _] rfl rfl ?_
                refine DJ.yd 0 rfl (by kernel_rfl) (by kernel_rfl) (by kernel_rfl) rfl rfl (Yd.mvS rfl) ?_
                refine DJ.yd 1 rfl (by kernel_rfl) (by kernel_rfl) (by kernel_rfl) rfl rfl (Yd.loadG (us := [_, _, _, _, _]) 0 rfl rfl rfl rfl) ?_
                refine DJ.yd 2 rfl (by kernel_rfl) (by kernel_rfl) (by kernel_rfl) rfl rfl (Yd.mvS rfl) ?_
                refine DJ.yd 4 rfl (by kernel_rfl) (by kernel_rfl) (by kernel_rfl) rfl rfl (Yd.mvS rfl) ?_
                refine DJ.yd 5 rfl (by kernel_rfl) (by kernel_rfl) (by kernel_rfl) rfl rfl (Yd.mvI rfl) ?_
                refine DJ.idxF 1 rfl 6 rfl (by kernel_rfl) (by kernel_rfl) (by kernel_rfl) rfl rfl rfl rfl (by omega) (by first | rfl | omega | (simp; done) | (simp; omega) | (simp [upN_len]; omega) | (simp [idxBy_len]; omega) | (simp [marks_len]; omega) | (simp [upN_len]; done) | (simp [idxBy_len]; done) | (simp [marks_len]; done) | (simp at *; omega)) (by first | rfl | omega | (simp; done) | (simp; omega) | (simp [upN_len]; omega) | (simp [idxBy_len]; omega) | (simp [marks_len]; omega) | (simp [upN_len]; done) | (simp [idxBy_len]; done) | (simp [marks_len]; done) | (simp at *; omega)) (fun ib57 ia57 => ?_)
                refine DJ.ldF 7 rfl (by kernel_rfl) (by kernel_rfl) (by kernel_rfl) rfl rfl 1 0 (fun u => vI u) (fun _ => rfl) rfl ia57 rfl rfl (by first | rfl | omega | (simp; done) | (simp; omega) | (simp [upN_len]; omega) | (simp [idxBy_len]; omega) | (simp [marks_len]; omega) | (simp [upN_len]; done) | (simp [idxBy_len]; done) | (simp [marks_len]; done) | (simp at *; omega)) (fun u58 hu58 => ?_)
                try simp only [Int.toNat_natCast] at hu58
                rw [List.getElem?_map, hq] at hu58
                obtain rfl : q.1 = u58 := Option.some.inj hu58
                refine DJ.two (i := 3) (j := 8) (by kernel_rfl) ?_ ?_
                · refine DO.call0 rfl rfl rfl (fun k0 hk0 dk0 k hk dk => copyInts_ok (RdRow.up hs) (by omega)) ?_
                  rintro _ _ ⟨ra54, rc54, rfl, rfl⟩
                  refine DJ.norm [_, _, _] [_, _, _] rfl rfl ?_
                  refine DJ.one (i := 8) (by kernel_rfl) ?_
                  refine DO.op rfl rfl rfl (fun k0 hk0 dk0 => OpR.buildSlice (cs := [_]) rfl rfl) ?_
                  rintro _ _ ⟨b11, rfl, rfl⟩
                  refine DJ.one (i := 9) (by kernel_rfl) ?_
                  refine DO.op rfl rfl rfl (fun k0 hk0 dk0 => OpR.apT (enc := encI) [_] 2 3 rfl rfl rfl (by first | rfl | omega | (simp; done) | (simp; omega) | (simp [upN_len]; omega) | (simp [idxBy_len]; omega) | (simp [marks_len]; omega) | (simp [upN_len]; done) | (simp [idxBy_len]; done) | (simp [marks_len]; done) | (simp at *; omega)) rfl rfl rfl rfl rfl (by first | rfl | omega | (simp; done) | (simp; omega) | (simp [upN_len]; omega) | (simp [idxBy_len]; omega) | (simp [marks_len]; omega) | (simp [upN_len]; done) | (simp [idxBy_len]; done) | (simp [marks_len]; done) | (simp at *; omega))) ?_
                  rintro _ _ ⟨ra60, rc60, rfl, rfl⟩
                  refine DJ.norm [_, _, _] [_, _, _, _] rfl rfl ?_
                  refine DJ.one (i := 10) (by kernel_rfl) ?_
                  refine DO.call0 rfl rfl rfl (fun k0 hk0 dk0 k hk dk => ih _ _ _ (s ++ [q.1]) (by simp; omega) h.up (Sts.lrm hk dk 2 (by first | rfl | omega | (simp; done) | (simp; omega) | (simp [upN_len]; omega) | (simp [idxBy_len]; omega) | (simp [marks_len]; omega) | (simp [upN_len]; done) | (simp [idxBy_len]; done) | (simp [marks_len]; done) | (simp at *; omega)) (by first | rfl | omega | (simp; done) | (simp; omega) | (simp [upN_len]; omega) | (simp [idxBy_len]; omega) | (simp [marks_len]; omega) | (simp [upN_len]; done) | (simp [idxBy_len]; done) | (simp [marks_len]; done) | (simp at *; omega)) rfl)) ?_
                  rintro _ _ ⟨ra61, rc61, Y2, rfl, rfl, hY2⟩
                  have hY3 : Y.length + Y2.length ≤ 1000000 := by
                    have h1 := congrArg List.length hY2
                    have h2 := ords_len K f (s ++ [q.1])
                    have h3 := pow_small hk5 (show f ≤ 5 by omega)
                    rw [List.length_map] at h1
                    have h4 := congrArg List.length hY
                    rw [List.length_append, List.length_map] at h4
                    omega
                  refine DJ.norm [_, _, _] [_, _, _, _, _, _] rfl rfl ?_
                  refine DJ.one (i := 11) (by kernel_rfl) ?_
                  refine DO.op rfl rfl rfl (fun k0 hk0 dk0 => OpR.apR (enc := encR) 0 4 rfl rfl rfl (by first | rfl | omega | (simp; done) | (simp; omega) | (simp [upN_len]; omega) | (simp [idxBy_len]; omega) | (simp [marks_len]; omega) | (simp [upN_len]; done) | (simp [idxBy_len]; done) | (simp [marks_len]; done) | (simp at *; omega)) rfl (by first | rfl | omega | (simp; done) | (simp; omega) | (simp [upN_len]; omega) | (simp [idxBy_len]; omega) | (simp [marks_len]; omega) | (simp [upN_len]; done) | (simp [idxBy_len]; done) | (simp [marks_len]; done) | (simp at *; omega)) (fun _ => rfl) (by first | rfl | omega | (simp; done) | (simp; omega) | (simp [upN_len]; omega) | (simp [idxBy_len]; omega) | (simp [marks_len]; omega) | (simp [upN_len]; done) | (simp [idxBy_len]; done) | (simp [marks_len]; done) | (simp at *; omega))) ?_
                  rintro _ _ ⟨ra62, rc62, rfl, rfl⟩
                  refine DJ.norm [_, _, _] [_, _, _, _, _, _] rfl rfl ?_
                  refine DJ.ent (fun _ => Ent.pickFold [0, 2, 3, 4] [1, 5] [] rfl (fun _ s => INN.join (f := (rowOf encI 3 1)) s)) ?_
                  refine DJ.norm [_, _, _] [_, _, _, _, _] rfl rfl ?_
                  refine DJ.yd 12 rfl (by kernel_rfl) (by kernel_rfl) (by kernel_rfl) rfl rfl (Yd.asS rfl) ?_
                  refine DJ.done (by kernel_rfl) ?_
                  refine CJ.region ?_
                  refine LJ.yd rfl (Yd.mvI rfl) ?_
                  refine LJ.yd rfl (Yd.add rfl rfl (by unfold I64; omega)) ?_
                  refine LJ.yd rfl (Yd.asI rfl) ?_
                  refine LJ.nil ?_
                  refine ⟨(kk + 1, _, _, _, _), ?_, ⟨rfl, rfl, rfl, rfl, rfl, trivial⟩, ⟨rfl, rfl, trivial⟩, Ent.pick [0, 1, 2, 3, 7] [4, 5, 6] rfl, ?_⟩
                  · refine ⟨(by first | rfl | omega | (simp; done) | (simp; omega) | (simp [upN_len]; omega) | (simp [idxBy_len]; omega) | (simp [marks_len]; omega) | (simp [upN_len]; done) | (simp [idxBy_len]; done) | (simp [marks_len]; done) | (simp at *; omega)), ?_⟩
                    have hkl2 : kk < K.length := by simp at h25; omega
                    refine ⟨by omega, ?_⟩
                    rw [dropC hq, List.flatMap_cons] at hY
                    have hoq := okStep_at hK (List.mem_of_getElem? hq) (s := s)
                    first
                      | (rw [if_pos (hoq.2 ⟨h34, by first | exact .inl h40 | exact .inr h48⟩), ← List.append_assoc] at hY
                         rw [List.map_append, hY2]; exact hY)
                      | (rw [if_neg (fun h => by have := hoq.1 h; omega), List.nil_append] at hY
                         exact hY)
                  · simp at h25; show K.length - (kk + 1) < K.length - kk; omega
                · refine DO.op rfl rfl rfl (fun k0 hk0 dk0 => OpR.buildSlice (cs := [_]) rfl rfl) ?_
                  rintro _ _ ⟨b12, rfl, rfl⟩
                  refine DJ.one (i := 3) (by kernel_rfl) ?_
                  refine DO.call0 rfl rfl rfl (fun k0 hk0 dk0 k hk dk => copyInts_ok (RdRow.up hs) (by omega)) ?_
                  rintro _ _ ⟨ra54, rc54, rfl, rfl⟩
                  refine DJ.norm [_, _, _] [_, _, _, _] rfl rfl ?_
                  refine DJ.one (i := 9) (by kernel_rfl) ?_
                  refine DO.op rfl rfl rfl (fun k0 hk0 dk0 => OpR.apT (enc := encI) [_] 3 2 rfl rfl rfl (by first | rfl | omega | (simp; done) | (simp; omega) | (simp [upN_len]; omega) | (simp [idxBy_len]; omega) | (simp [marks_len]; omega) | (simp [upN_len]; done) | (simp [idxBy_len]; done) | (simp [marks_len]; done) | (simp at *; omega)) rfl rfl rfl rfl rfl (by first | rfl | omega | (simp; done) | (simp; omega) | (simp [upN_len]; omega) | (simp [idxBy_len]; omega) | (simp [marks_len]; omega) | (simp [upN_len]; done) | (simp [idxBy_len]; done) | (simp [marks_len]; done) | (simp at *; omega))) ?_
                  rintro _ _ ⟨ra60, rc60, rfl, rfl⟩
                  refine DJ.norm [_, _, _] [_, _, _, _] rfl rfl ?_
                  refine DJ.one (i := 10) (by kernel_rfl) ?_
                  refine DO.call0 rfl rfl rfl (fun k0 hk0 dk0 k hk dk => ih _ _ _ (s ++ [q.1]) (by simp; omega) h.up (Sts.lrm hk dk 3 (by first | rfl | omega | (simp; done) | (simp; omega) | (simp [upN_len]; omega) | (simp [idxBy_len]; omega) | (simp [marks_len]; omega) | (simp [upN_len]; done) | (simp [idxBy_len]; done) | (simp [marks_len]; done) | (simp at *; omega)) (by first | rfl | omega | (simp; done) | (simp; omega) | (simp [upN_len]; omega) | (simp [idxBy_len]; omega) | (simp [marks_len]; omega) | (simp [upN_len]; done) | (simp [idxBy_len]; done) | (simp [marks_len]; done) | (simp at *; omega)) rfl)) ?_
                  rintro _ _ ⟨ra61, rc61, Y2, rfl, rfl, hY2⟩
                  have hY3 : Y.length + Y2.length ≤ 1000000 := by
                    have h1 := congrArg List.length hY2
                    have h2 := ords_len K f (s ++ [q.1])
                    have h3 := pow_small hk5 (show f ≤ 5 by omega)
                    rw [List.length_map] at h1
                    have h4 := congrArg List.length hY
                    rw [List.length_append, List.length_map] at h4
                    omega
                  refine DJ.norm [_, _, _] [_, _, _, _, _, _] rfl rfl ?_
                  refine DJ.one (i := 11) (by kernel_rfl) ?_
                  refine DO.op rfl rfl rfl (fun k0 hk0 dk0 => OpR.apR (enc := encR) 0 4 rfl rfl rfl (by first | rfl | omega | (simp; done) | (simp; omega) | (simp [upN_len]; omega) | (simp [idxBy_len]; omega) | (simp [marks_len]; omega) | (simp [upN_len]; done) | (simp [idxBy_len]; done) | (simp [marks_len]; done) | (simp at *; omega)) rfl (by first | rfl | omega | (simp; done) | (simp; omega) | (simp [upN_len]; omega) | (simp [idxBy_len]; omega) | (simp [marks_len]; omega) | (simp [upN_len]; done) | (simp [idxBy_len]; done) | (simp [marks_len]; done) | (simp at *; omega)) (fun _ => rfl) (by first | rfl | omega | (simp; done) | (simp; omega) | (simp [upN_len]; omega) | (simp [idxBy_len]; omega) | (simp [marks_len]; omega) | (simp [upN_len]; done) | (simp [idxBy_len]; done) | (simp [marks_len]; done) | (simp at *; omega))) ?_
                  rintro _ _ ⟨ra62, rc62, rfl, rfl⟩
                  refine DJ.norm [_, _, _] [_, _, _, _, _, _] rfl rfl ?_
                  refine DJ.ent (fun _ => Ent.pickFold [0, 2, 3, 4] [1, 5] [] rfl (fun _ s => INN.join (f := (rowOf encI 3 1)) s)) ?_
                  refine DJ.norm [_, _, _] [_, _, _, _, _] rfl rfl ?_
                  refine DJ.yd 12 rfl (by kernel_rfl) (by kernel_rfl) (by kernel_rfl) rfl rfl (Yd.asS rfl) ?_
                  refine DJ.done (by kernel_rfl) ?_
                  refine CJ.region ?_
                  refine LJ.yd rfl (Yd.mvI rfl) ?_
                  refine LJ.yd rfl (Yd.add rfl rfl (by unfold I64; omega)) ?_
                  refine LJ.yd rfl (Yd.asI rfl) ?_
                  refine LJ.nil ?_
                  refine ⟨(kk + 1, _, _, _, _), ?_, ⟨rfl, rfl, rfl, rfl, rfl, trivial⟩, ⟨rfl, rfl, trivial⟩, Ent.pick [0, 1, 2, 3, 7] [4, 5, 6] rfl, ?_⟩
                  · refine ⟨(by first | rfl | omega | (simp; done) | (simp; omega) | (simp [upN_len]; omega) | (simp [idxBy_len]; omega) | (simp [marks_len]; omega) | (simp [upN_len]; done) | (simp [idxBy_len]; done) | (simp [marks_len]; done) | (simp at *; omega)), ?_⟩
                    have hkl2 : kk < K.length := by simp at h25; omega
                    refine ⟨by omega, ?_⟩
                    rw [dropC hq, List.flatMap_cons] at hY
                    have hoq := okStep_at hK (List.mem_of_getElem? hq) (s := s)
                    first
                      | (rw [if_pos (hoq.2 ⟨h34, by first | exact .inl h40 | exact .inr h48⟩), ← List.append_assoc] at hY
                         rw [List.map_append, hY2]; exact hY)
                      | (rw [if_neg (fun h => by have := hoq.1 h; omega), List.nil_append] at hY
                         exact hY)
                  · simp at h25; show K.length - (kk + 1) < K.length - kk; omega
              · refine LJ.gT rfl ?_
                refine LJ.yd rfl (Yd.pickFB rfl rfl) ?_
                refine LJ.yd rfl (Yd.pickTB rfl rfl) ?_
                refine LJ.nil ?_
                refine CJ.condF rfl ?_
                refine CJ.skip ?_
                refine CJ.region ?_
                refine LJ.yd rfl (Yd.mvI rfl) ?_
                refine LJ.yd rfl (Yd.add rfl rfl (by unfold I64; omega)) ?_
                refine LJ.yd rfl (Yd.asI rfl) ?_
                refine LJ.nil ?_
                refine ⟨(kk + 1, _, _, _, _), ?_, ⟨rfl, rfl, rfl, rfl, rfl, trivial⟩, ⟨rfl, rfl, trivial⟩, Ent.refl _, ?_⟩
                · refine ⟨(by first | rfl | omega | (simp; done) | (simp; omega) | (simp [upN_len]; omega) | (simp [idxBy_len]; omega) | (simp [marks_len]; omega) | (simp [upN_len]; done) | (simp [idxBy_len]; done) | (simp [marks_len]; done) | (simp at *; omega)), ?_⟩
                  have hkl2 : kk < K.length := by simp at h25; omega
                  refine ⟨by omega, ?_⟩
                  rw [dropC hq, List.flatMap_cons] at hY
                  have hoq := okStep_at hK (List.mem_of_getElem? hq) (s := s)
                  first
                    | (rw [if_pos (hoq.2 ⟨h34, by first | exact .inl h40 | exact .inr h48⟩), ← List.append_assoc] at hY
                       rw [List.map_append, hY2]; exact hY)
                    | (rw [if_neg (fun h => by have := hoq.1 h; omega), List.nil_append] at hY
                       exact hY)
                · simp at h25; show K.length - (kk + 1) < K.length - kk; omega
          · refine LJ.yd rfl (Yd.mvB rfl) ?_
            refine LJ.gF rfl rfl ?_
            refine LJ.gF rfl rfl ?_
            refine LJ.gF rfl rfl ?_
            refine LJ.gF rfl rfl ?_
            refine LJ.gF rfl rfl ?_
            refine LJ.gF rfl rfl ?_
            refine LJ.gF rfl rfl ?_
            refine LJ.gF rfl rfl ?_
            refine LJ.gF rfl rfl ?_
            refine LJ.gF rfl rfl ?_
            refine LJ.gF rfl rfl ?_
            refine LJ.gF rfl rfl ?_
            refine LJ.gF rfl rfl ?_
            refine LJ.gF rfl rfl ?_
            refine LJ.yd rfl (Yd.pickFB rfl rfl) ?_
            refine LJ.nil ?_
            refine CJ.condF rfl ?_
            refine CJ.skip ?_
            refine CJ.region ?_
            refine LJ.yd rfl (Yd.mvI rfl) ?_
            refine LJ.yd rfl (Yd.add rfl rfl (by unfold I64; omega)) ?_
            refine LJ.yd rfl (Yd.asI rfl) ?_
            refine LJ.nil ?_
            refine ⟨(kk + 1, _, _, _, _), ?_, ⟨rfl, rfl, rfl, rfl, rfl, trivial⟩, ⟨rfl, rfl, trivial⟩, Ent.refl _, ?_⟩
            · refine ⟨(by first | rfl | omega | (simp; done) | (simp; omega) | (simp [upN_len]; omega) | (simp [idxBy_len]; omega) | (simp [marks_len]; omega) | (simp [upN_len]; done) | (simp [idxBy_len]; done) | (simp [marks_len]; done) | (simp at *; omega)), ?_⟩
              have hkl2 : kk < K.length := by simp at h25; omega
              refine ⟨by omega, ?_⟩
              rw [dropC hq, List.flatMap_cons] at hY
              have hoq := okStep_at hK (List.mem_of_getElem? hq) (s := s)
              first
                | (rw [if_pos (hoq.2 ⟨h34, by first | exact .inl h40 | exact .inr h48⟩), ← List.append_assoc] at hY
                   rw [List.map_append, hY2]; exact hY)
                | (rw [if_neg (fun h => by have := hoq.1 h; omega), List.nil_append] at hY
                   exact hY)
            · simp at h25; show K.length - (kk + 1) < K.length - kk; omega
        · refine LJ.nil ?_
          refine CJ.condF rfl ?_
          refine CJ.exit ?_
          refine CJ.seq ?_
          refine CJ.region ?_
          refine LJ.yd rfl (Yd.mvS rfl) ?_
          refine LJ.yd rfl (Yd.asS rfl) ?_
          refine LJ.nil ?_
          refine CJ.ret ?_
          exact Fin.R [_, _] (Res.one (ResV.tmp (v := .slice _ _ _) rfl)) ⟨_, _, _, rfl, rfl, by rw [List.drop_of_length_le (by simp at h25; omega)] at hY; simpa using hY⟩ (Ent.pick [3, 4] [0, 1, 2] rfl)
theorem equalInts_e {A : Amb} {v w : Value} {l l2 : List Int} (e : l = l2) (hl : RdL encI 1 A.h v l) (hl2 : RdL encI 1 A.h w l2) : Ctr Try.prog 17 #[v, w] A [] (Val (.bool true)) := by
  have := equalInts_ok hl hl2
  rwa [decide_eq_true e] at this
theorem knP_cuts {q : Plan} (h : ¬ psz q < 0) : ∃ b : BT, q = b.plan ∧ b.sz ≤ 255 ∧ knP q = b.knots 0 (-1) ∧ ((knP q).length : Int) = b.cuts := by
  obtain ⟨b, rfl, hz, hk⟩ := knP_S h
  exact ⟨b, rfl, hz, hk, by rw [hk, b.knots_len]⟩
theorem AllStepsS_ok {A : Amb} {cs : List Value} {q : Plan} (h : RdPlan A.h cs q) : Ctr Try.prog 26 #[.agg cs.toArray] A [] (RLLP encI 3 1 30 (asP q)) := by
  obtain ⟨o, a, p, t, kids, v, css, e, hcs, ho, ha, hp, ⟨⟨sa, sc, rfl, hm, hrow⟩, hlen⟩, hk⟩ := h.inv
  unfold asP
  by_cases hq : psz q < 0
  · rw [if_pos (.inl hq)]
    subst hcs
    refine Ctr.body (args := [_]) Try.func26 rfl Try.ntmps26 Try.results26 (by simp) ?_
    refine CJ.seq ?_
    refine CJ.region ?_
    refine LJ.boxG (vs := [_, _, _, _, _]) rfl rfl (fun b1 => ?_)
    refine LJ.yd rfl (Yd.asS rfl) ?_
    refine LJ.nil ?_
    refine CJ.seq ?_
    refine CJ.seq ?_
    refine CJ.region ?_
    refine LJ.yd rfl (Yd.loadG (us := [_, _, _, _, _]) 0 rfl rfl rfl rfl) ?_
    refine LJ.callV rfl (fun k hk dk => planSizeS_ok h.up) ?_
    refine LJ.yd rfl (Yd.cmpT (Yd.lss rfl rfl) (by omega)) ?_
    refine LJ.yd rfl (Yd.mvB rfl) ?_
    refine LJ.gF rfl rfl ?_
    refine LJ.gF rfl rfl ?_
    refine LJ.gF rfl rfl ?_
    refine LJ.yd rfl (Yd.pickTB rfl rfl) ?_
    refine LJ.nil ?_
    refine CJ.condT rfl ?_
    refine CJ.seq ?_
    refine CJ.region ?_
    refine LJ.yd rfl (Yd.asS rfl) ?_
    refine LJ.nil ?_
    refine CJ.ret ?_
    exact Fin.R [_, _] (Res.one (ResV.tmp (v := .slice _ _ _) rfl)) ⟨none, 0, [], rfl, rfl, rfl⟩ (Ent.thn (Ent.thn (Ent.pick [] [0] rfl) (Ent.addLR (α := Rw Int) encR 30 1)) (INN.ent _))
  · obtain ⟨b, hb, hz, hkn, hkl⟩ := knP_cuts hq
    have hT : RdT A.h cs b := RdT.of b (hb ▸ h)
    have hsc := b.sz_cuts
    rw [hkn] at hkl ⊢
    by_cases h5 : 5 < (b.knots 0 (-1)).length
    · rw [if_pos (.inr h5)]
      subst hcs
      refine Ctr.body (args := [_]) Try.func26 rfl Try.ntmps26 Try.results26 (by simp) ?_
      refine CJ.seq ?_
      refine CJ.region ?_
      refine LJ.boxG (vs := [_, _, _, _, _]) rfl rfl (fun b1 => ?_)
      refine LJ.yd rfl (Yd.asS rfl) ?_
      refine LJ.nil ?_
      refine CJ.seq ?_
      refine CJ.seq ?_
      refine CJ.region ?_
      refine LJ.yd rfl (Yd.loadG (us := [_, _, _, _, _]) 0 rfl rfl rfl rfl) ?_
      refine LJ.callV rfl (fun k hk dk => planSizeS_ok h.up) ?_
      refine LJ.yd rfl (Yd.cmpF (Yd.lss rfl rfl) (by omega)) ?_
      refine LJ.yd rfl (Yd.mvB rfl) ?_
      refine LJ.gT rfl ?_
      refine LJ.yd rfl (Yd.loadG (us := [_, _, _, _, _]) 0 rfl rfl rfl rfl) ?_
      refine LJ.gT rfl ?_
      refine LJ.callV rfl (fun k hk dk => cutsOf_ok b _ _ (by omega) hT.up) ?_
      refine LJ.gT rfl ?_
      refine LJ.yd rfl (Yd.cmpT (Yd.gtr rfl rfl) (by omega)) ?_
      refine LJ.yd rfl (Yd.pickFB rfl rfl) ?_
      refine LJ.nil ?_
      refine CJ.condT rfl ?_
      refine CJ.seq ?_
      refine CJ.region ?_
      refine LJ.yd rfl (Yd.asS rfl) ?_
      refine LJ.nil ?_
      refine CJ.ret ?_
      exact Fin.R [_, _] (Res.one (ResV.tmp (v := .slice _ _ _) rfl)) ⟨none, 0, [], rfl, rfl, rfl⟩ (Ent.thn (Ent.thn (Ent.pick [] [0] rfl) (Ent.addLR (α := Rw Int) encR 30 1)) (INN.ent _))
    · rw [if_neg (by omega)]
      subst hcs
      refine Ctr.body (args := [_]) Try.func26 rfl Try.ntmps26 Try.results26 (by simp) ?_
      refine CJ.seq ?_
      refine CJ.region ?_
      refine LJ.boxG (vs := [_, _, _, _, _]) rfl rfl (fun b1 => ?_)
      refine LJ.yd rfl (Yd.asS rfl) ?_
      refine LJ.nil ?_
      refine CJ.seq ?_
      refine CJ.seq ?_
      refine CJ.region ?_
      refine LJ.yd rfl (Yd.loadG (us := [_, _, _, _, _]) 0 rfl rfl rfl rfl) ?_
      refine LJ.callV rfl (fun k hk dk => planSizeS_ok h.up) ?_
      refine LJ.yd rfl (Yd.cmpF (Yd.lss rfl rfl) (by omega)) ?_
      refine LJ.yd rfl (Yd.mvB rfl) ?_
      refine LJ.gT rfl ?_
      refine LJ.yd rfl (Yd.loadG (us := [_, _, _, _, _]) 0 rfl rfl rfl rfl) ?_
      refine LJ.gT rfl ?_
      refine LJ.callV rfl (fun k hk dk => cutsOf_ok b _ _ (by omega) hT.up) ?_
      refine LJ.gT rfl ?_
      refine LJ.yd rfl (Yd.cmpF (Yd.gtr rfl rfl) (by omega)) ?_
      refine LJ.yd rfl (Yd.pickFB rfl rfl) ?_
      refine LJ.nil ?_
      refine CJ.condF rfl ?_
      refine CJ.skip ?_
      refine CJ.seq ?_
      refine CJ.region ?_
      refine LJ.yd rfl (Yd.loadG (us := [_, _, _, _, _]) 0 rfl rfl rfl rfl) ?_
      refine LJ.op rfl (OpR.buildSlice (cs := []) rfl rfl) ?_
      rintro _ _ ⟨b2, rfl, rfl⟩
      refine LJ.call0 rfl (fun k hk dk => allSteps_ok hz (by omega) (b.knots 0 (-1)).length _ _ _ [] (by simp) hT.up (RdL.nil _ _ _ _)) ?_
      rintro _ _ ⟨ra13, rc13, Y2, rfl, rfl, hY2⟩
      refine LJ.norm [_, _, _, _] rfl ?_
      refine LJ.yd rfl (Yd.asS rfl) ?_
      refine LJ.nil ?_
      refine CJ.ret ?_
      exact Fin.R [_, _] (Res.one (ResV.tmp (v := .slice _ _ _) rfl)) ⟨_, _, _, rfl, rfl, hY2⟩ (Ent.pick [2, 3] [0, 1] rfl)
theorem equalLists_T {A : Amb} {v w : Value} {X Y : List (Rw Int)} (hl : RdL encR 1 A.h v X) (hl2 : RdL encR 1 A.h w Y) (hx : ∀ u ∈ X, RdL encI 1 A.h (.slice u.a u.l.length u.c) u.l) (hy : ∀ u ∈ Y, RdL encI 1 A.h (.slice u.a u.l.length u.c) u.l) (e : X.map Rw.l = Y.map Rw.l) :
    Ctr Try.prog 25 #[v, w] A [] (Val (.bool true)) := by
  obtain ⟨la, lc, rfl, hlb, hl⟩ := hl.un
  obtain ⟨la2, lc2, rfl, hlb2, hl2⟩ := hl2.un
  have hlen := congrArg List.length e
  rw [List.length_map, List.length_map] at hlen
  refine Ctr.body (args := [_, _]) Try.func25 rfl Try.ntmps25 Try.results25 (by simp) ?_
  refine CJ.seq ?_
  refine CJ.region ?_
  refine LJ.yd rfl (Yd.asB rfl) ?_
  refine LJ.nil ?_
  refine CJ.seq ?_
  refine CJ.seq ?_
  refine CJ.region ?_
  refine LJ.yd rfl (Yd.mvS rfl) ?_
  refine LJ.yd rfl (Yd.len rfl) ?_
  refine LJ.yd rfl (Yd.mvS rfl) ?_
  refine LJ.yd rfl (Yd.len rfl) ?_
  refine LJ.splitN rfl (Yd.neq rfl rfl) (fun h10 => ?_) (fun h10 => ?_)
  · exfalso; omega
  · refine LJ.nil ?_
    refine CJ.condF rfl ?_
    refine CJ.skip ?_
    refine CJ.seq ?_
    refine CJ.seq ?_
    refine CJ.region ?_
    refine LJ.yd rfl (Yd.asI rfl) ?_
    refine LJ.nil ?_
    refine CJ.block ?_
    refine CJ.loopK [0, 1] Nat (fun k => k ≤ X.length) (fun k => [(5, vI k)]) (fun k => X.length - k) (0) ?_ ⟨rfl, trivial⟩ ?_
    · exact by omega
    · rintro k σ hk1
      refine CJ.seq ?_
      refine CJ.seq ?_
      refine CJ.region ?_
      refine LJ.yd rfl (Yd.mvI rfl) ?_
      refine LJ.yd rfl (Yd.mvS rfl) ?_
      refine LJ.yd rfl (Yd.len rfl) ?_
      refine LJ.splitD rfl (Yd.lss rfl rfl) (fun h14 => ?_) (fun h14 => ?_)
      · refine LJ.nil ?_
        refine CJ.condT rfl ?_
        refine CJ.skip ?_
        refine CJ.seq ?_
        refine CJ.block ?_
        refine CJ.seq ?_
        refine CJ.regionD [] [] (by kernel_rfl) rfl ?_
        refine DJ.norm [] [] rfl rfl ?_
        refine DJ.yd 0 rfl (by kernel_rfl) (by kernel_rfl) (by kernel_rfl) rfl rfl (Yd.mvS rfl) ?_
        refine DJ.yd 1 rfl (by kernel_rfl) (by kernel_rfl) (by kernel_rfl) rfl rfl (Yd.mvI rfl) ?_
        refine DJ.idxA 2 rfl (by kernel_rfl) (by kernel_rfl) (by kernel_rfl) rfl rfl hl rfl rfl (by omega) (by first | rfl | omega | (simp; done) | (simp; omega) | (simp [upN_len]; omega) | (simp [idxBy_len]; omega) | (simp [marks_len]; omega) | (simp [upN_len]; done) | (simp [idxBy_len]; done) | (simp [marks_len]; done) | (simp at *; omega)) (fun ib19 io19 ia19 ir19 => ?_)
        refine DJ.ldA 3 rfl (by kernel_rfl) (by kernel_rfl) (by kernel_rfl) rfl rfl 0 (fun u => .slice u.a u.l.length u.c) (fun _ => rfl) ir19 rfl rfl (by first | rfl | omega | (simp; done) | (simp; omega) | (simp [upN_len]; omega) | (simp [idxBy_len]; omega) | (simp [marks_len]; omega) | (simp [upN_len]; done) | (simp [idxBy_len]; done) | (simp [marks_len]; done) | (simp at *; omega)) (fun u20 hu20 => ?_)
        try simp only [Int.toNat_natCast] at hu20
        refine DJ.yd 4 rfl (by kernel_rfl) (by kernel_rfl) (by kernel_rfl) rfl rfl (Yd.mvS rfl) ?_
        refine DJ.yd 5 rfl (by kernel_rfl) (by kernel_rfl) (by kernel_rfl) rfl rfl (Yd.mvI rfl) ?_
        refine DJ.idxA 6 rfl (by kernel_rfl) (by kernel_rfl) (by kernel_rfl) rfl rfl hl2 rfl rfl (by omega) (by first | rfl | omega | (simp; done) | (simp; omega) | (simp [upN_len]; omega) | (simp [idxBy_len]; omega) | (simp [marks_len]; omega) | (simp [upN_len]; done) | (simp [idxBy_len]; done) | (simp [marks_len]; done) | (simp at *; omega)) (fun ib23 io23 ia23 ir23 => ?_)
        refine DJ.ldA 7 rfl (by kernel_rfl) (by kernel_rfl) (by kernel_rfl) rfl rfl 0 (fun u => .slice u.a u.l.length u.c) (fun _ => rfl) ir23 rfl rfl (by first | rfl | omega | (simp; done) | (simp; omega) | (simp [upN_len]; omega) | (simp [idxBy_len]; omega) | (simp [marks_len]; omega) | (simp [upN_len]; done) | (simp [idxBy_len]; done) | (simp [marks_len]; done) | (simp at *; omega)) (fun u24 hu24 => ?_)
        try simp only [Int.toNat_natCast] at hu24
        have h24 : u20.l = u24.l := by
          have := congrArg (fun l => l[k]?) e
          simp only [List.getElem?_map, hu20, hu24, Option.map_some, Option.some.injEq] at this
          exact this
        refine DJ.one (i := 8) (by kernel_rfl) ?_
        refine DO.callV rfl rfl rfl (fun k0 hk0 dk0 k hk dk => equalInts_e h24 (RdRow.up (hx u20 (List.mem_of_getElem? hu20))) (RdRow.up (hy u24 (List.mem_of_getElem? hu24)))) ?_
        refine DJ.yd 9 rfl (by kernel_rfl) (by kernel_rfl) (by kernel_rfl) rfl rfl (Yd.not rfl) ?_
        refine DJ.done (by kernel_rfl) ?_
        refine CJ.condF rfl ?_
        refine CJ.skip ?_
        refine CJ.region ?_
        refine LJ.yd rfl (Yd.mvI rfl) ?_
        refine LJ.yd rfl (Yd.add rfl rfl (by unfold I64; omega)) ?_
        refine LJ.yd rfl (Yd.asI rfl) ?_
        refine LJ.nil ?_
        refine ⟨(k + 1), ?_, ⟨rfl, rfl, trivial⟩, ⟨rfl, trivial⟩, Ent.refl _, ?_⟩
        · omega
        · first | omega | (dsimp only; omega) | (simp only []; omega)
      · refine LJ.nil ?_
        refine CJ.condF rfl ?_
        refine CJ.exit ?_
        refine CJ.seq ?_
        refine CJ.region ?_
        refine LJ.yd rfl (Yd.asB rfl) ?_
        refine LJ.nil ?_
        refine CJ.ret ?_
        refine Fin.V (Res.one (ResV.tmp (v := .bool true) rfl)) ?_
        rfl
end Go.Proofs.Ytfnnhekbgjofoaa
