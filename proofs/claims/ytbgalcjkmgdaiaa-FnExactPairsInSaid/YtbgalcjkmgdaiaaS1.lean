/-
  Parts of a list that change places: contracts of swapRange and rotate of Go's stable sort.
-/
import Derived.Test.YtbgalcjkmgdaiaaA3
namespace Go.Proofs.Ytbgalcjkmgdaiaa
open Go
set_option maxRecDepth 20000
set_option maxHeartbeats 1000000

theorem set2 {A B C : List Int} {x y : Int} {i j : Nat} (hi : i = A.length) (hj : j = A.length + 1 + B.length) : ((A ++ x :: (B ++ y :: C)).set i y).set j x = A ++ y :: (B ++ x :: C) := by
  subst hi hj
  rw [List.set_append_right _ _ (Nat.le_refl _), Nat.sub_self, List.set_cons_zero, List.set_append_right _ _ (by omega), show A.length + 1 + B.length - A.length = B.length + 1 by omega, List.set_cons_succ, List.set_append_right _ _ (Nat.le_refl _), Nat.sub_self, List.set_cons_zero]
theorem get2a {A B C : List Int} {x y : Int} {i : Nat} (hi : i = A.length) : (A ++ x :: (B ++ y :: C))[i]? = some x := by
  subst hi; simp
theorem get2b {A B C : List Int} {x y : Int} {j : Nat} (hj : j = A.length + 1 + B.length) : (A ++ x :: (B ++ y :: C))[j]? = some y := by
  subst hj
  rw [List.getElem?_append_right (by omega), show A.length + 1 + B.length - A.length = B.length + 1 by omega, List.getElem?_cons_succ, List.getElem?_append_right (Nat.le_refl _), Nat.sub_self, List.getElem?_cons_zero]
/-- the first k of X and Y have changed places -/
def swK (P X M Y Q : List Int) (k : Nat) : List Int := P ++ (Y.take k ++ (X.drop k ++ (M ++ (X.take k ++ (Y.drop k ++ Q)))))
theorem swK_len {P X M Y Q : List Int} {k : Nat} (h : X.length = Y.length) : (swK P X M Y Q k).length = P.length + X.length + M.length + Y.length + Q.length := by
  simp [swK]; omega
theorem swK_now {P X M Y Q : List Int} {k : Nat} {x y : Int} (hx : X[k]? = some x) (hy : Y[k]? = some y) : swK P X M Y Q k = (P ++ Y.take k) ++ x :: ((X.drop (k + 1) ++ (M ++ X.take k)) ++ y :: (Y.drop (k + 1) ++ Q)) := by
  rw [swK, dropC hx, dropC hy]; simp
theorem swK_next {P X M Y Q : List Int} {k : Nat} {x y : Int} (hx : X[k]? = some x) (hy : Y[k]? = some y) : swK P X M Y Q (k + 1) = (P ++ Y.take k) ++ y :: ((X.drop (k + 1) ++ (M ++ X.take k)) ++ x :: (Y.drop (k + 1) ++ Q)) := by
  rw [swK, takeC hx, takeC hy]; simp
theorem swK_zero {P X M Y Q : List Int} : swK P X M Y Q 0 = P ++ (X ++ (M ++ (Y ++ Q))) := by simp [swK]
theorem swK_all {P X M Y Q : List Int} {k : Nat} (h : X.length ≤ k) (h2 : Y.length ≤ k) : swK P X M Y Q k = P ++ (Y ++ (M ++ (X ++ Q))) := by
  rw [swK, List.take_of_length_le h, List.take_of_length_le h2, List.drop_of_length_le h, List.drop_of_length_le h2]; simp
theorem swapRange_ok {A : Amb} {f : Value} {g c ln : Nat} {P X M Y Q l r : List Int} {a b n : Int} (hxy : X.length = Y.length) (hl : l = P ++ (X ++ (M ++ (Y ++ Q)))) (hr : r = P ++ (Y ++ (M ++ (X ++ Q)))) (hln : ln = l.length) (h1 : l.length ≤ 100000)
    (ha : a = P.length) (hb : b = P.length + X.length + M.length) (hn : n = X.length) : Ctr Try.prog 80 #[.slice (some ⟨g, 0, none⟩) ln c, vI a, vI b, vI n, f] A [LR encI 3 1 (some ⟨g, 0, none⟩) c l] (fun v gs => v = .tuple #[] ∧ gs = [LR encI 3 1 (some ⟨g, 0, none⟩) c r]) := by
  subst hln hn ha hb
  have hll : l.length = P.length + X.length + M.length + Y.length + Q.length := by rw [hl]; simp; omega
  refine Ctr.body (args := [_, _, _, _, _]) Try.func80 rfl Try.ntmps80 Try.results80 (by simp) ?_
  refine CJ.seq ?_
  refine CJ.region ?_
  refine LJ.yd rfl (Yd.asI rfl) ?_
  refine LJ.nil ?_
  refine CJ.block ?_
  refine CJ.norm [LR encI 3 1 (some ⟨g, 0, none⟩) c (swK P X M Y Q 0)] (by rw [hl, swK_zero]) ?_
  refine CJ.loopF [0, 1, 2, 3] Nat (fun k => k ≤ X.length) (fun k => [(10, vI k)]) (fun k => [LR encI 3 1 (some ⟨g, 0, none⟩) c (swK P X M Y Q k)]) (fun k => X.length - k) (0) [] [] [0] rfl rfl rfl ?_ ⟨rfl, trivial⟩ ?_
  · exact by omega
  · rintro k σ hk1
    refine CJ.norm [_] rfl ?_
    refine CJ.seq ?_
    refine CJ.seq ?_
    refine CJ.region ?_
    refine LJ.yd rfl (Yd.mvI rfl) ?_
    refine LJ.yd rfl (Yd.mvI rfl) ?_
    refine LJ.splitD rfl (Yd.lss rfl rfl) (fun h13 => ?_) (fun h13 => ?_)
    · refine LJ.nil ?_
      refine CJ.condT rfl ?_
      refine CJ.skip ?_
      refine CJ.seq ?_
      refine CJ.block ?_
      obtain ⟨x, hx⟩ := someC (l := X) (j := k) (by omega)
      obtain ⟨y, hy⟩ := someC (l := Y) (j := k) (by omega)
      have hsl := swK_len (P := P) (M := M) (Q := Q) (k := k) hxy
      have e1 : (P ++ Y.take k).length = P.length + k := by simp; omega
      have e2 : (X.drop (k + 1) ++ (M ++ X.take k)).length = X.length - 1 + M.length := by simp; omega
      refine CJ.regionD [] [0] (by kernel_rfl) rfl ?_
      refine DJ.norm [] [_] rfl rfl ?_
      refine DJ.yd 0 rfl (by kernel_rfl) (by kernel_rfl) (by kernel_rfl) rfl rfl (Yd.mvS rfl) ?_
      refine DJ.yd 1 rfl (by kernel_rfl) (by kernel_rfl) (by kernel_rfl) rfl rfl (Yd.mvI rfl) ?_
      refine DJ.yd 2 rfl (by kernel_rfl) (by kernel_rfl) (by kernel_rfl) rfl rfl (Yd.mvI rfl) ?_
      refine DJ.yd 3 rfl (by kernel_rfl) (by kernel_rfl) (by kernel_rfl) rfl rfl (Yd.add rfl rfl (by unfold I64; omega)) ?_
      refine DJ.yd 4 rfl (by kernel_rfl) (by kernel_rfl) (by kernel_rfl) rfl rfl (Yd.mvS rfl) ?_
      refine DJ.yd 5 rfl (by kernel_rfl) (by kernel_rfl) (by kernel_rfl) rfl rfl (Yd.mvI rfl) ?_
      refine DJ.yd 6 rfl (by kernel_rfl) (by kernel_rfl) (by kernel_rfl) rfl rfl (Yd.mvI rfl) ?_
      refine DJ.yd 7 rfl (by kernel_rfl) (by kernel_rfl) (by kernel_rfl) rfl rfl (Yd.add rfl rfl (by unfold I64; omega)) ?_
      refine DJ.yd 8 rfl (by kernel_rfl) (by kernel_rfl) (by kernel_rfl) rfl rfl (Yd.mvS rfl) ?_
      refine DJ.yd 9 rfl (by kernel_rfl) (by kernel_rfl) (by kernel_rfl) rfl rfl (Yd.mvI rfl) ?_
      refine DJ.yd 10 rfl (by kernel_rfl) (by kernel_rfl) (by kernel_rfl) rfl rfl (Yd.mvI rfl) ?_
      refine DJ.yd 11 rfl (by kernel_rfl) (by kernel_rfl) (by kernel_rfl) rfl rfl (Yd.add rfl rfl (by unfold I64; omega)) ?_
      refine DJ.idxR 0 rfl 12 rfl (by kernel_rfl) (by kernel_rfl) (by kernel_rfl) rfl rfl rfl rfl (by omega) (by first | rfl | omega | (simp; done) | (simp; omega) | (simp [upN_len]; omega) | (simp [idxBy_len]; omega) | (simp [marks_len]; omega) | (simp [upN_len]; done) | (simp [idxBy_len]; done) | (simp [marks_len]; done) | (simp at *; omega)) (by first | rfl | omega | (simp; done) | (simp; omega) | (simp [upN_len]; omega) | (simp [idxBy_len]; omega) | (simp [marks_len]; omega) | (simp [upN_len]; done) | (simp [idxBy_len]; done) | (simp [marks_len]; done) | (simp at *; omega)) (fun ib28 ia28 => ?_)
      refine DJ.yd 14 rfl (by kernel_rfl) (by kernel_rfl) (by kernel_rfl) rfl rfl (Yd.mvS rfl) ?_
      refine DJ.yd 15 rfl (by kernel_rfl) (by kernel_rfl) (by kernel_rfl) rfl rfl (Yd.mvI rfl) ?_
      refine DJ.yd 16 rfl (by kernel_rfl) (by kernel_rfl) (by kernel_rfl) rfl rfl (Yd.mvI rfl) ?_
      refine DJ.yd 17 rfl (by kernel_rfl) (by kernel_rfl) (by kernel_rfl) rfl rfl (Yd.add rfl rfl (by unfold I64; omega)) ?_
      refine DJ.idxR 0 rfl 18 rfl (by kernel_rfl) (by kernel_rfl) (by kernel_rfl) rfl rfl rfl rfl (by omega) (by first | rfl | omega | (simp; done) | (simp; omega) | (simp [upN_len]; omega) | (simp [idxBy_len]; omega) | (simp [marks_len]; omega) | (simp [upN_len]; done) | (simp [idxBy_len]; done) | (simp [marks_len]; done) | (simp at *; omega)) (by first | rfl | omega | (simp; done) | (simp; omega) | (simp [upN_len]; omega) | (simp [idxBy_len]; omega) | (simp [marks_len]; omega) | (simp [upN_len]; done) | (simp [idxBy_len]; done) | (simp [marks_len]; done) | (simp at *; omega)) (fun ib34 ia34 => ?_)
      refine DJ.two (i := 13) (j := 19) (by kernel_rfl) ?_ ?_
      · refine DO.ldR rfl rfl rfl 0 0 (fun u => vI u) (fun _ => rfl) rfl ia28 rfl rfl (by first | rfl | omega | (simp; done) | (simp; omega) | (simp [upN_len]; omega) | (simp [idxBy_len]; omega) | (simp [marks_len]; omega) | (simp [upN_len]; done) | (simp [idxBy_len]; done) | (simp [marks_len]; done) | (simp at *; omega)) (fun u29 hu29 => ?_)
        try simp only [Int.toNat_natCast] at hu29
        refine DJ.one (i := 19) (by kernel_rfl) ?_
        refine DO.ldR rfl rfl rfl 0 0 (fun u => vI u) (fun _ => rfl) rfl ia34 rfl rfl (by first | rfl | omega | (simp; done) | (simp; omega) | (simp [upN_len]; omega) | (simp [idxBy_len]; omega) | (simp [marks_len]; omega) | (simp [upN_len]; done) | (simp [idxBy_len]; done) | (simp [marks_len]; done) | (simp at *; omega)) (fun u35 hu35 => ?_)
        try simp only [Int.toNat_natCast] at hu35
        refine DJ.idxR 0 rfl 20 rfl (by kernel_rfl) (by kernel_rfl) (by kernel_rfl) rfl rfl rfl rfl (by omega) (by first | rfl | omega | (simp; done) | (simp; omega) | (simp [upN_len]; omega) | (simp [idxBy_len]; omega) | (simp [marks_len]; omega) | (simp [upN_len]; done) | (simp [idxBy_len]; done) | (simp [marks_len]; done) | (simp at *; omega)) (by first | rfl | omega | (simp; done) | (simp; omega) | (simp [upN_len]; omega) | (simp [idxBy_len]; omega) | (simp [marks_len]; omega) | (simp [upN_len]; done) | (simp [idxBy_len]; done) | (simp [marks_len]; done) | (simp at *; omega)) (fun ib36 ia36 => ?_)
        refine DJ.one (i := 21) (by kernel_rfl) ?_
        refine DO.op rfl rfl rfl (fun k0 hk0 dk0 => OpR.st1 (enc := encI) (e1 := fun u => vI u) 0 (fun _ => rfl) (fun _ => rfl) (fun _ => rfl) rfl ia36 rfl rfl rfl (by first | rfl | omega | (simp; done) | (simp; omega) | (simp [upN_len]; omega) | (simp [idxBy_len]; omega) | (simp [marks_len]; omega) | (simp [upN_len]; done) | (simp [idxBy_len]; done) | (simp [marks_len]; done) | (simp at *; omega))) ?_
        rintro _ _ ⟨rfl, rfl⟩
        refine DJ.norm [] [_] rfl rfl ?_
        refine DJ.idxR 0 rfl 22 rfl (by kernel_rfl) (by kernel_rfl) (by kernel_rfl) rfl rfl rfl rfl (by omega) (by first | rfl | omega | (simp; done) | (simp; omega) | (simp [upN_len]; omega) | (simp [idxBy_len]; omega) | (simp [marks_len]; omega) | (simp [upN_len]; done) | (simp [idxBy_len]; done) | (simp [marks_len]; done) | (simp at *; omega)) (by first | rfl | omega | (simp; done) | (simp; omega) | (simp [upN_len]; omega) | (simp [idxBy_len]; omega) | (simp [marks_len]; omega) | (simp [upN_len]; done) | (simp [idxBy_len]; done) | (simp [marks_len]; done) | (simp at *; omega)) (fun ib37 ia37 => ?_)
        refine DJ.one (i := 23) (by kernel_rfl) ?_
        refine DO.op rfl rfl rfl (fun k0 hk0 dk0 => OpR.st1 (enc := encI) (e1 := fun u => vI u) 0 (fun _ => rfl) (fun _ => rfl) (fun _ => rfl) rfl ia37 rfl rfl rfl (by first | rfl | omega | (simp; done) | (simp; omega) | (simp [upN_len]; omega) | (simp [idxBy_len]; omega) | (simp [marks_len]; omega) | (simp [upN_len]; done) | (simp [idxBy_len]; done) | (simp [marks_len]; done) | (simp at *; omega))) ?_
        rintro _ _ ⟨rfl, rfl⟩
        refine DJ.norm [] [_] rfl rfl ?_
        refine DJ.done (by kernel_rfl) ?_
        rw [swK_now hx hy, get2b (by omega)] at hu29
        rw [swK_now hx hy, get2a (by omega)] at hu35
        cases hu29
        cases hu35
        refine CJ.norm [LR encI 3 1 (some ⟨g, 0, none⟩) c (swK P X M Y Q (k + 1))] ?_ ?_
        · refine congrArg (fun z => [LR encI 3 1 (some ⟨g, 0, none⟩) c z]) ?_
          rw [swK_next hx hy, swK_now hx hy]
          first
            | exact set2 (by omega) (by omega)
            | (rw [List.set_comm _ _ (by omega)]; exact set2 (by omega) (by omega))
        refine CJ.region ?_
        refine LJ.yd rfl (Yd.mvI rfl) ?_
        refine LJ.yd rfl (Yd.add rfl rfl (by unfold I64; omega)) ?_
        refine LJ.yd rfl (Yd.asI rfl) ?_
        refine LJ.nil ?_
        refine ⟨(k + 1), ?_, ⟨rfl, rfl, rfl, rfl, trivial⟩, ⟨rfl, trivial⟩, Ent.refl _, ?_⟩
        · omega
        · first | omega | (dsimp only; omega) | (simp only []; omega)
      · refine DO.ldR rfl rfl rfl 0 0 (fun u => vI u) (fun _ => rfl) rfl ia34 rfl rfl (by first | rfl | omega | (simp; done) | (simp; omega) | (simp [upN_len]; omega) | (simp [idxBy_len]; omega) | (simp [marks_len]; omega) | (simp [upN_len]; done) | (simp [idxBy_len]; done) | (simp [marks_len]; done) | (simp at *; omega)) (fun u35 hu35 => ?_)
        try simp only [Int.toNat_natCast] at hu35
        refine DJ.one (i := 13) (by kernel_rfl) ?_
        refine DO.ldR rfl rfl rfl 0 0 (fun u => vI u) (fun _ => rfl) rfl ia28 rfl rfl (by first | rfl | omega | (simp; done) | (simp; omega) | (simp [upN_len]; omega) | (simp [idxBy_len]; omega) | (simp [marks_len]; omega) | (simp [upN_len]; done) | (simp [idxBy_len]; done) | (simp [marks_len]; done) | (simp at *; omega)) (fun u29 hu29 => ?_)
        try simp only [Int.toNat_natCast] at hu29
        refine DJ.idxR 0 rfl 20 rfl (by kernel_rfl) (by kernel_rfl) (by kernel_rfl) rfl rfl rfl rfl (by omega) (by first | rfl | omega | (simp; done) | (simp; omega) | (simp [upN_len]; omega) | (simp [idxBy_len]; omega) | (simp [marks_len]; omega) | (simp [upN_len]; done) | (simp [idxBy_len]; done) | (simp [marks_len]; done) | (simp at *; omega)) (by first | rfl | omega | (simp; done) | (simp; omega) | (simp [upN_len]; omega) | (simp [idxBy_len]; omega) | (simp [marks_len]; omega) | (simp [upN_len]; done) | (simp [idxBy_len]; done) | (simp [marks_len]; done) | (simp at *; omega)) (fun ib36 ia36 => ?_)
        refine DJ.one (i := 21) (by kernel_rfl) ?_
        refine DO.op rfl rfl rfl (fun k0 hk0 dk0 => OpR.st1 (enc := encI) (e1 := fun u => vI u) 0 (fun _ => rfl) (fun _ => rfl) (fun _ => rfl) rfl ia36 rfl rfl rfl (by first | rfl | omega | (simp; done) | (simp; omega) | (simp [upN_len]; omega) | (simp [idxBy_len]; omega) | (simp [marks_len]; omega) | (simp [upN_len]; done) | (simp [idxBy_len]; done) | (simp [marks_len]; done) | (simp at *; omega))) ?_
        rintro _ _ ⟨rfl, rfl⟩
        refine DJ.norm [] [_] rfl rfl ?_
        refine DJ.idxR 0 rfl 22 rfl (by kernel_rfl) (by kernel_rfl) (by kernel_rfl) rfl rfl rfl rfl (by omega) (by first | rfl | omega | (simp; done) | (simp; omega) | (simp [upN_len]; omega) | (simp [idxBy_len]; omega) | (simp [marks_len]; omega) | (simp [upN_len]; done) | (simp [idxBy_len]; done) | (simp [marks_len]; done) | (simp at *; omega)) (by first | rfl | omega | (simp; done) | (simp; omega) | (simp [upN_len]; omega) | (simp [idxBy_len]; omega) | (simp [marks_len]; omega) | (simp [upN_len]; done) | (simp [idxBy_len]; done) | (simp [marks_len]; done) | (simp at *; omega)) (fun ib37 ia37 => ?_)
        refine DJ.one (i := 23) (by kernel_rfl) ?_
        refine DO.op rfl rfl rfl (fun k0 hk0 dk0 => OpR.st1 (enc := encI) (e1 := fun u => vI u) 0 (fun _ => rfl) (fun _ => rfl) (fun _ => rfl) rfl ia37 rfl rfl rfl (by first | rfl | omega | (simp; done) | (simp; omega) | (simp [upN_len]; omega) | (simp [idxBy_len]; omega) | (simp [marks_len]; omega) | (simp [upN_len]; done) | (simp [idxBy_len]; done) | (simp [marks_len]; done) | (simp at *; omega))) ?_
        rintro _ _ ⟨rfl, rfl⟩
        refine DJ.norm [] [_] rfl rfl ?_
        refine DJ.done (by kernel_rfl) ?_
        rw [swK_now hx hy, get2b (by omega)] at hu29
        rw [swK_now hx hy, get2a (by omega)] at hu35
        cases hu29
        cases hu35
        refine CJ.norm [LR encI 3 1 (some ⟨g, 0, none⟩) c (swK P X M Y Q (k + 1))] ?_ ?_
        · refine congrArg (fun z => [LR encI 3 1 (some ⟨g, 0, none⟩) c z]) ?_
          rw [swK_next hx hy, swK_now hx hy]
          first
            | exact set2 (by omega) (by omega)
            | (rw [List.set_comm _ _ (by omega)]; exact set2 (by omega) (by omega))
        refine CJ.region ?_
        refine LJ.yd rfl (Yd.mvI rfl) ?_
        refine LJ.yd rfl (Yd.add rfl rfl (by unfold I64; omega)) ?_
        refine LJ.yd rfl (Yd.asI rfl) ?_
        refine LJ.nil ?_
        refine ⟨(k + 1), ?_, ⟨rfl, rfl, rfl, rfl, trivial⟩, ⟨rfl, trivial⟩, Ent.refl _, ?_⟩
        · omega
        · first | omega | (dsimp only; omega) | (simp only []; omega)
    · refine LJ.nil ?_
      refine CJ.condF rfl ?_
      refine CJ.exit ?_
      refine Fin.ofRet ?_
      rw [hr, ← swK_all (M := M) (k := k) (by omega) (by omega)]
      exact Fin.R [_] Res.none ⟨rfl, rfl⟩ (Ent.refl _)
theorem cut_a (p x z : List Int) (k : Nat) : p ++ (x ++ z) = p ++ (x.take k ++ (x.drop k ++ z)) := by rw [← List.append_assoc (x.take k), List.take_append_drop]
theorem rotate_ok {A : Amb} {F : FuncId} {caps : List Value} {g c ln : Nat} {P X Y Q l r : List Int} {a m b : Int} (hl : l = P ++ (X ++ (Y ++ Q))) (hr : r = P ++ (Y ++ (X ++ Q))) (hln : ln = l.length) (h1 : l.length ≤ 100000) (h2 : 0 < X.length) (h3 : 0 < Y.length)
    (ha : a = P.length) (hm : m = P.length + X.length) (hb : b = P.length + X.length + Y.length) : Ctr Try.prog 79 #[.slice (some ⟨g, 0, none⟩) ln c, vI a, vI m, vI b, .func (.func F) #[] caps.toArray] A [LR encI 3 1 (some ⟨g, 0, none⟩) c l] (fun v gs => v = .tuple #[] ∧ gs = [LR encI 3 1 (some ⟨g, 0, none⟩) c r]) := by
  subst hln ha hm hb
  have hll : l.length = P.length + X.length + Y.length + Q.length := by rw [hl]; simp; omega
  refine Ctr.body (args := [_, _, _, _, _]) Try.func79 rfl Try.ntmps79 Try.results79 (by simp) ?_
  refine CJ.seq ?_
  refine CJ.region ?_
  refine LJ.yd rfl (Yd.mvI rfl) ?_
  refine LJ.yd rfl (Yd.mvI rfl) ?_
  refine LJ.yd rfl (Yd.sub rfl rfl (by unfold I64; omega)) ?_
  refine LJ.yd rfl (Yd.asI rfl) ?_
  refine LJ.nil ?_
  refine CJ.seq ?_
  refine CJ.region ?_
  refine LJ.yd rfl (Yd.mvI rfl) ?_
  refine LJ.yd rfl (Yd.mvI rfl) ?_
  refine LJ.yd rfl (Yd.sub rfl rfl (by unfold I64; omega)) ?_
  refine LJ.yd rfl (Yd.asI rfl) ?_
  refine LJ.nil ?_
  refine CJ.seq ?_
  refine CJ.block ?_
  refine CJ.norm [LR encI 3 1 (some ⟨g, 0, none⟩) c (P ++ (X ++ (Y ++ Q)))] (by rw [hl]) ?_
  refine CJ.loopF [0, 2, 4] (Int × Int × List Int × List Int × List Int × List Int) (fun ⟨i, j, p, x, y, q⟩ => i = x.length ∧ j = y.length ∧ 0 < x.length ∧ 0 < y.length ∧ p.length + x.length = P.length + X.length ∧ p.length + x.length + y.length + q.length = l.length ∧ p ++ (y ++ (x ++ q)) = r) (fun ⟨i, j, p, x, y, q⟩ => [(10, vI i), (11, vI j)]) (fun ⟨i, j, p, x, y, q⟩ => [LR encI 3 1 (some ⟨g, 0, none⟩) c (p ++ (x ++ (y ++ q)))]) (fun ⟨i, j, p, x, y, q⟩ => x.length + y.length) ((P.length : Int) + X.length - P.length, (P.length : Int) + X.length + Y.length - (P.length + X.length), P, X, Y, Q) [] [] [0] rfl rfl rfl ?_ ⟨rfl, rfl, trivial⟩ ?_
  · exact ⟨by omega, by omega, h2, h3, rfl, by omega, hr.symm⟩
  · rintro ⟨i, j, p, x, y, q⟩ σ ⟨hi, hj, hx0, hy0, hpx, hpl, hre⟩
    refine CJ.norm [_] rfl ?_
    have hbl : (p ++ (x ++ (y ++ q))).length = l.length := by simp; omega
    refine CJ.seq ?_
    refine CJ.seq ?_
    refine CJ.region ?_
    refine LJ.yd rfl (Yd.mvI rfl) ?_
    refine LJ.yd rfl (Yd.mvI rfl) ?_
    refine LJ.splitN rfl (Yd.neq rfl rfl) (fun h20 => ?_) (fun h20 => ?_)
    · refine LJ.nil ?_
      refine CJ.condT rfl ?_
      refine CJ.skip ?_
      refine CJ.block ?_
      refine CJ.seq ?_
      refine CJ.region ?_
      refine LJ.yd rfl (Yd.mvI rfl) ?_
      refine LJ.yd rfl (Yd.mvI rfl) ?_
      refine LJ.splitD rfl (Yd.gtr rfl rfl) (fun h23 => ?_) (fun h23 => ?_)
      · refine LJ.nil ?_
        refine CJ.condT rfl ?_
        refine CJ.seq ?_
        refine CJ.region ?_
        refine LJ.yd rfl (Yd.mvS rfl) ?_
        refine LJ.yd rfl (Yd.mvI rfl) ?_
        refine LJ.yd rfl (Yd.mvI rfl) ?_
        refine LJ.yd rfl (Yd.sub rfl rfl (by unfold I64; omega)) ?_
        refine LJ.yd rfl (Yd.mvI rfl) ?_
        refine LJ.yd rfl (Yd.mvI rfl) ?_
        refine LJ.yd rfl (Yd.mvF rfl) ?_
        refine LJ.call (pickF _ []) (pickF _ [0]) rfl (perm_pickF _ [] [0] rfl) (fun k hk dk => swapRange_ok (P := p) (X := x.take y.length) (M := x.drop y.length) (Y := y) (Q := q) (r := (p ++ y) ++ (x.drop y.length ++ (x.take y.length ++ q))) (by simp; omega) (cut_a p x _ y.length) (by simp) (by omega) (by omega) (by omega) (by simp; omega) (by simp; omega)) ?_
        rintro _ _ ⟨rfl, rfl⟩
        refine LJ.norm [_] rfl ?_
        refine LJ.nil ?_
        refine CJ.region ?_
        refine LJ.yd rfl (Yd.mvI rfl) ?_
        refine LJ.yd rfl (Yd.mvI rfl) ?_
        refine LJ.yd rfl (Yd.sub rfl rfl (by unfold I64; omega)) ?_
        refine LJ.yd rfl (Yd.asI rfl) ?_
        refine LJ.nil ?_
        refine ⟨(i - j, j, p ++ y, x.drop y.length, x.take y.length, q), ?_, ⟨rfl, rfl, rfl, trivial⟩, ⟨rfl, rfl, trivial⟩, Ent.refl _, ?_⟩
        · refine ⟨?_, ?_, ?_, ?_, ?_, ?_, ?_⟩
          · simp; omega
          · simp; omega
          · simp; omega
          · simp; omega
          · simp; omega
          · simp; omega
          · rw [← hre]
            first
              | (rw [List.append_assoc, ← cut_a]; done)
              | (rw [cut_a p y _ (y.length - x.length)]; done)
        · simp; omega
      · refine LJ.nil ?_
        refine CJ.condF rfl ?_
        refine CJ.seq ?_
        refine CJ.region ?_
        refine LJ.yd rfl (Yd.mvS rfl) ?_
        refine LJ.yd rfl (Yd.mvI rfl) ?_
        refine LJ.yd rfl (Yd.mvI rfl) ?_
        refine LJ.yd rfl (Yd.sub rfl rfl (by unfold I64; omega)) ?_
        refine LJ.yd rfl (Yd.mvI rfl) ?_
        refine LJ.yd rfl (Yd.mvI rfl) ?_
        refine LJ.yd rfl (Yd.add rfl rfl (by unfold I64; omega)) ?_
        refine LJ.yd rfl (Yd.mvI rfl) ?_
        refine LJ.yd rfl (Yd.sub rfl rfl (by unfold I64; omega)) ?_
        refine LJ.yd rfl (Yd.mvI rfl) ?_
        refine LJ.yd rfl (Yd.mvF rfl) ?_
        refine LJ.call (pickF _ []) (pickF _ [0]) rfl (perm_pickF _ [] [0] rfl) (fun k hk dk => swapRange_ok (P := p) (X := x) (M := y.take (y.length - x.length)) (Y := y.drop (y.length - x.length)) (Q := q) (r := p ++ (y.drop (y.length - x.length) ++ (y.take (y.length - x.length) ++ (x ++ q)))) (by simp; omega) (by rw [cut_a x y q (y.length - x.length)]) rfl (by omega) (by omega) (by omega) (by simp; omega) (by omega)) ?_
        rintro _ _ ⟨rfl, rfl⟩
        refine LJ.norm [_] rfl ?_
        refine LJ.nil ?_
        refine CJ.region ?_
        refine LJ.yd rfl (Yd.mvI rfl) ?_
        refine LJ.yd rfl (Yd.mvI rfl) ?_
        refine LJ.yd rfl (Yd.sub rfl rfl (by unfold I64; omega)) ?_
        refine LJ.yd rfl (Yd.asI rfl) ?_
        refine LJ.nil ?_
        refine ⟨(i, j - i, p, y.drop (y.length - x.length), y.take (y.length - x.length), x ++ q), ?_, ⟨rfl, rfl, rfl, trivial⟩, ⟨rfl, rfl, trivial⟩, Ent.refl _, ?_⟩
        · refine ⟨?_, ?_, ?_, ?_, ?_, ?_, ?_⟩
          · simp; omega
          · simp; omega
          · simp; omega
          · simp; omega
          · simp; omega
          · simp; omega
          · rw [← hre]
            first
              | (rw [List.append_assoc, ← cut_a]; done)
              | (rw [cut_a p y _ (y.length - x.length)]; done)
        · simp; omega
    · refine LJ.nil ?_
      refine CJ.condF rfl ?_
      refine CJ.exit ?_
      refine CJ.region ?_
      refine LJ.yd rfl (Yd.mvS rfl) ?_
      refine LJ.yd rfl (Yd.mvI rfl) ?_
      refine LJ.yd rfl (Yd.mvI rfl) ?_
      refine LJ.yd rfl (Yd.sub rfl rfl (by unfold I64; omega)) ?_
      refine LJ.yd rfl (Yd.mvI rfl) ?_
      refine LJ.yd rfl (Yd.mvI rfl) ?_
      refine LJ.yd rfl (Yd.mvF rfl) ?_
      refine LJ.call (pickF _ []) (pickF _ [0]) rfl (perm_pickF _ [] [0] rfl) (fun k hk dk => swapRange_ok (P := p) (X := x) (M := []) (Y := y) (Q := q) (r := r) (by omega) (by simp) (by rw [← hre]; simp) (by omega) (by omega) (by omega) (by simp; omega) (by omega)) ?_
      rintro _ _ ⟨rfl, rfl⟩
      refine LJ.norm [_] rfl ?_
      refine LJ.nil ?_
      refine Fin.ofRet ?_
      exact Fin.R [_] Res.none ⟨rfl, rfl⟩ (Ent.refl _)
end Go.Proofs.Ytbgalcjkmgdaiaa
