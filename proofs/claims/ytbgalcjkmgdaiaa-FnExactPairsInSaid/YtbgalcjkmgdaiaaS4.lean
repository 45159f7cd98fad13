/-
  Go's stable sort on more than twenty numbers.
-/
import Derived.Test.YtbgalcjkmgdaiaaS3
namespace Go.Proofs.Ytbgalcjkmgdaiaa
open Go
set_option maxRecDepth 20000
set_option maxHeartbeats 1000000

theorem symMerge_ok {F : FuncId} {caps : List Value} {D : Int → Prop} {lt : Int → Int → Bool} {R : Int → Int → Prop} {g c ln : Nat} [TyFn Try.prog F] (hR : ∀ x y z, R x y → R y z → R x z) (h1 : ln ≤ 100000) : ∀ N, SymOk F caps D lt R g c ln N
  | 0 => fun B P U V Q l a m b hc hN hl hln h0 => by omega
  | N + 1 => fun B P U V Q l a m b hc hN hl hln hU0 hV0 ha hm hb hDu hDv hU hV hlt => by
    match U, V, hU0, hV0 with
    | [u], V, _, _ =>
      exact sym1_ok hc hR (u := u) (V := V) (by simpa using hl) hln (by omega) ha (by simpa using hm) (by simpa using hb) (hDu u (by simp)) hDv hV (hlt u (by simp))
    | u :: v :: U, [w], _, _ =>
      exact sym2_ok hc hR (U := u :: v :: U) (w := w) (by simpa using hl) hln (by omega) (by simp) ha hm (by simpa using hb) hDu (hDv w (by simp)) hU (fun x hx => hlt x hx w (by simp))
    | u :: v :: U, w :: x :: V, _, _ =>
      exact symN_ok (symMerge_ok hR h1 N) hc hR hN hl hln h1 (by simp) (by simp) ha hm hb hDu hDv hU hV hlt
theorem insSeg_ok {A : Amb} {F : FuncId} {caps : List Value} {D : Int → Prop} {lt : Int → Int → Bool} {g c ln : Nat} {P S Q l : List Int} {a b : Int} [TyFn Try.prog F] (hc : Cmp A F caps D lt) (hD : ∀ x ∈ S, D x) (h0 : 0 < S.length) (hl : l = P ++ (S ++ Q)) (hln : ln = l.length) (h1 : ln ≤ 100000) (ha : a = P.length) (hb : b = P.length + S.length) :
    Ctr Try.prog 77 #[.slice (some ⟨g, 0, none⟩) ln c, vI a, vI b, .func (.func F) #[] caps.toArray] A [LR encI 3 1 (some ⟨g, 0, none⟩) c l] (fun v gs => v = .tuple #[] ∧ gs = [LR encI 3 1 (some ⟨g, 0, none⟩) c (P ++ (insAll lt [] S ++ Q))]) := by
  subst ha hb
  have hll : ln = P.length + S.length + Q.length := by rw [hln, hl]; simp; omega
  refine Ctr.body (args := [_, _, _, _]) Try.func77 rfl Try.ntmps77 Try.results77 (by simp) ?_
  refine CJ.seq ?_
  refine CJ.region ?_
  refine LJ.yd rfl (Yd.mvI rfl) ?_
  refine LJ.yd rfl (Yd.add rfl rfl (by unfold I64; omega)) ?_
  refine LJ.yd rfl (Yd.asI rfl) ?_
  refine LJ.nil ?_
  refine CJ.block ?_
  refine CJ.norm [LR encI 3 1 (some ⟨g, 0, none⟩) c (P ++ (S.take 1 ++ (S.drop ((P.length : Int) + 1 - P.length).toNat ++ Q)))] (by rw [hl, show ((P.length : Int) + 1 - P.length).toNat = 1 by omega, ← cut_a P S Q 1]) ?_
  refine CJ.loopF [0, 1, 2, 3] (Int × List Int) (fun ⟨z, p⟩ => (P.length : Int) + 1 ≤ z ∧ z ≤ P.length + S.length ∧ p.length = (z - P.length).toNat ∧ insAll lt p (S.drop (z - P.length).toNat) = insAll lt [] S ∧ ∀ q ∈ p, D q) (fun ⟨z, p⟩ => [(8, vI z)]) (fun ⟨z, p⟩ => [LR encI 3 1 (some ⟨g, 0, none⟩) c (P ++ (p ++ (S.drop (z - P.length).toNat ++ Q)))]) (fun ⟨z, p⟩ => (P.length + S.length - z).toNat) ((P.length : Int) + 1, S.take 1) [] [] [0] rfl rfl rfl ?_ ⟨rfl, trivial⟩ ?_
  · exact ⟨by omega, by omega, by rw [List.length_take]; omega, by
          rw [show ((P.length : Int) + 1 - P.length).toNat = 1 by omega]
          obtain ⟨y, hy⟩ := someC (l := S) (j := 0) (by omega)
          conv => rhs; rw [← List.drop_zero (l := S), dropC hy]
          rw [takeC hy]; rfl, fun z hz => hD z (List.mem_of_mem_take hz)⟩
  · rintro ⟨z, p⟩ σ ⟨hz0, hz1, hpl, hpi, hpd⟩
    refine CJ.norm [_] rfl ?_
    refine CJ.seq ?_
    refine CJ.seq ?_
    refine CJ.region ?_
    refine LJ.yd rfl (Yd.mvI rfl) ?_
    refine LJ.yd rfl (Yd.mvI rfl) ?_
    refine LJ.splitD rfl (Yd.lss rfl rfl) (fun h14 => ?_) (fun h14 => ?_)
    · refine LJ.nil ?_
      refine CJ.condT rfl ?_
      refine CJ.skip ?_
      refine CJ.seq ?_
      refine CJ.block ?_
      refine CJ.seq ?_
      refine CJ.region ?_
      refine LJ.yd rfl (Yd.mvI rfl) ?_
      refine LJ.yd rfl (Yd.asI rfl) ?_
      refine LJ.nil ?_
      refine CJ.block ?_
      obtain ⟨x, hx⟩ := someC (l := S) (j := (z - P.length).toNat) (by omega)
      have hDx := hD x (List.mem_of_getElem? hx)
      refine CJ.norm [LR encI 3 1 (some ⟨g, 0, none⟩) c (amid P p (S.drop (z + 1 - P.length).toNat ++ Q) x (z - P.length).toNat)] (by rw [dropC hx, show (z + 1 - P.length).toNat = (z - P.length).toNat + 1 by omega]; simp [amid, ← hpl]) ?_
      refine CJ.loopF [0, 1, 2, 3, 8, 12, 13, 14, 17] Int (fun j => (P.length : Int) ≤ j ∧ j ≤ z ∧ (ins lt x (p.take (j - P.length).toNat).reverse).reverse ++ p.drop (j - P.length).toNat = (ins lt x p.reverse).reverse) (fun j => [(9, vI j)]) (fun j => [LR encI 3 1 (some ⟨g, 0, none⟩) c (amid P p (S.drop (z + 1 - P.length).toNat ++ Q) x (j - P.length).toNat)]) (fun j => (j - P.length).toNat) (z) [] [] [0] rfl rfl rfl ?_ ⟨rfl, trivial⟩ ?_
      · exact ⟨by omega, by omega, by rw [← hpl]; exact ins_full⟩
      · rintro j σ ⟨hj0, hj1, hj2⟩
        refine CJ.norm [_] rfl ?_
        have hml : (amid P p (S.drop (z + 1 - P.length).toNat ++ Q) x (j - P.length).toNat).length = ln := by simp; omega
        refine CJ.seq ?_
        refine CJ.seq ?_
        refine CJ.regionD [0] [] (by kernel_rfl) rfl ?_
        refine DJ.norm [_] [] rfl rfl ?_
        refine DJ.yd 0 rfl (by kernel_rfl) (by kernel_rfl) (by kernel_rfl) rfl rfl (Yd.mvI rfl) ?_
        refine DJ.yd 1 rfl (by kernel_rfl) (by kernel_rfl) (by kernel_rfl) rfl rfl (Yd.mvI rfl) ?_
        refine DJ.splitD 2 rfl (by kernel_rfl) (by kernel_rfl) (by kernel_rfl) rfl rfl (Yd.gtr rfl rfl) (fun h20 => ?_) (fun h20 => ?_)
        · refine DJ.yd 3 rfl (by kernel_rfl) (by kernel_rfl) (by kernel_rfl) rfl rfl (Yd.mvB rfl) ?_
          refine DJ.yd 4 rfl (by kernel_rfl) (by kernel_rfl) (by kernel_rfl) rfl rfl (Yd.mvF rfl) ?_
          refine DJ.yd 5 rfl (by kernel_rfl) (by kernel_rfl) (by kernel_rfl) rfl rfl (Yd.mvS rfl) ?_
          refine DJ.yd 6 rfl (by kernel_rfl) (by kernel_rfl) (by kernel_rfl) rfl rfl (Yd.mvI rfl) ?_
          refine DJ.idxF 0 rfl 7 rfl (by kernel_rfl) (by kernel_rfl) (by kernel_rfl) rfl rfl rfl rfl (by omega) (by first | rfl | omega | (simp; done) | (simp; omega) | (simp [upN_len]; omega) | (simp [idxBy_len]; omega) | (simp [marks_len]; omega) | (simp [upN_len]; done) | (simp [idxBy_len]; done) | (simp [marks_len]; done) | (simp at *; omega)) (by first | rfl | omega | (simp; done) | (simp; omega) | (simp [upN_len]; omega) | (simp [idxBy_len]; omega) | (simp [marks_len]; omega) | (simp [upN_len]; done) | (simp [idxBy_len]; done) | (simp [marks_len]; done) | (simp at *; omega)) (fun ib25 ia25 => ?_)
          refine DJ.ldF 8 rfl (by kernel_rfl) (by kernel_rfl) (by kernel_rfl) rfl rfl 0 0 (fun u => vI u) (fun _ => rfl) rfl ia25 rfl rfl (by first | rfl | omega | (simp; done) | (simp; omega) | (simp [upN_len]; omega) | (simp [idxBy_len]; omega) | (simp [marks_len]; omega) | (simp [upN_len]; done) | (simp [idxBy_len]; done) | (simp [marks_len]; done) | (simp at *; omega)) (fun u26 hu26 => ?_)
          try simp only [Int.toNat_natCast] at hu26
          obtain rfl : x = u26 := by rw [mid_at (by omega) (by omega)] at hu26; exact Option.some.inj hu26
          refine DJ.yd 9 rfl (by kernel_rfl) (by kernel_rfl) (by kernel_rfl) rfl rfl (Yd.mvS rfl) ?_
          refine DJ.yd 10 rfl (by kernel_rfl) (by kernel_rfl) (by kernel_rfl) rfl rfl (Yd.mvI rfl) ?_
          refine DJ.yd 11 rfl (by kernel_rfl) (by kernel_rfl) (by kernel_rfl) rfl rfl (Yd.sub rfl rfl (by unfold I64; omega)) ?_
          refine DJ.idxF 0 rfl 12 rfl (by kernel_rfl) (by kernel_rfl) (by kernel_rfl) rfl rfl rfl rfl (by omega) (by first | rfl | omega | (simp; done) | (simp; omega) | (simp [upN_len]; omega) | (simp [idxBy_len]; omega) | (simp [marks_len]; omega) | (simp [upN_len]; done) | (simp [idxBy_len]; done) | (simp [marks_len]; done) | (simp at *; omega)) (by first | rfl | omega | (simp; done) | (simp; omega) | (simp [upN_len]; omega) | (simp [idxBy_len]; omega) | (simp [marks_len]; omega) | (simp [upN_len]; done) | (simp [idxBy_len]; done) | (simp [marks_len]; done) | (simp at *; omega)) (fun ib30 ia30 => ?_)
          refine DJ.ldF 13 rfl (by kernel_rfl) (by kernel_rfl) (by kernel_rfl) rfl rfl 0 0 (fun u => vI u) (fun _ => rfl) rfl ia30 rfl rfl (by first | rfl | omega | (simp; done) | (simp; omega) | (simp [upN_len]; omega) | (simp [idxBy_len]; omega) | (simp [marks_len]; omega) | (simp [upN_len]; done) | (simp [idxBy_len]; done) | (simp [marks_len]; done) | (simp at *; omega)) (fun u31 hu31 => ?_)
          try simp only [Int.toNat_natCast] at hu31
          obtain ⟨t, ht⟩ : ∃ t : Nat, (j - P.length).toNat = t + 1 := ⟨(j - P.length).toNat - 1, by omega⟩
          obtain ⟨v, hv⟩ := someC (l := p) (j := t) (by omega)
          have hu31b := hu31
          rw [ht, mid_prev hv (by omega)] at hu31b
          obtain rfl : v = u31 := Option.some.inj hu31b
          have hD31 := hpd v (List.mem_of_getElem? hv)
          refine DJ.one (i := 14) (by kernel_rfl) ?_
          refine DO.callD0 rfl rfl rfl rfl (fun k0 hk0 dk0 k hk dk => hc ((A.ext k0).ext k) inferInstance _ _ hDx hD31) ?_
          rintro _ _ ⟨c32, rfl, rfl, hc32⟩
          refine DJ.norm [_] [] rfl rfl ?_
          refine DJ.splitD 15 rfl (by kernel_rfl) (by kernel_rfl) (by kernel_rfl) rfl rfl (Yd.lss rfl rfl) (fun h33 => ?_) (fun h33 => ?_)
          · refine DJ.yd 16 rfl (by kernel_rfl) (by kernel_rfl) (by kernel_rfl) rfl rfl (Yd.pickTB rfl rfl) ?_
            refine DJ.done (by kernel_rfl) ?_
            refine CJ.condT rfl ?_
            refine CJ.skip ?_
            refine CJ.seq ?_
            refine CJ.block ?_
            refine CJ.regionD [] [0] (by kernel_rfl) rfl ?_
            refine DJ.norm [] [_] rfl rfl ?_
            refine DJ.yd 0 rfl (by kernel_rfl) (by kernel_rfl) (by kernel_rfl) rfl rfl (Yd.mvS rfl) ?_
            refine DJ.yd 1 rfl (by kernel_rfl) (by kernel_rfl) (by kernel_rfl) rfl rfl (Yd.mvI rfl) ?_
            refine DJ.yd 2 rfl (by kernel_rfl) (by kernel_rfl) (by kernel_rfl) rfl rfl (Yd.mvS rfl) ?_
            refine DJ.yd 3 rfl (by kernel_rfl) (by kernel_rfl) (by kernel_rfl) rfl rfl (Yd.mvI rfl) ?_
            refine DJ.yd 4 rfl (by kernel_rfl) (by kernel_rfl) (by kernel_rfl) rfl rfl (Yd.sub rfl rfl (by unfold I64; omega)) ?_
            refine DJ.yd 5 rfl (by kernel_rfl) (by kernel_rfl) (by kernel_rfl) rfl rfl (Yd.mvS rfl) ?_
            refine DJ.yd 6 rfl (by kernel_rfl) (by kernel_rfl) (by kernel_rfl) rfl rfl (Yd.mvI rfl) ?_
            refine DJ.yd 7 rfl (by kernel_rfl) (by kernel_rfl) (by kernel_rfl) rfl rfl (Yd.sub rfl rfl (by unfold I64; omega)) ?_
            refine DJ.idxR 0 rfl 8 rfl (by kernel_rfl) (by kernel_rfl) (by kernel_rfl) rfl rfl rfl rfl (by omega) (by first | rfl | omega | (simp; done) | (simp; omega) | (simp [upN_len]; omega) | (simp [idxBy_len]; omega) | (simp [marks_len]; omega) | (simp [upN_len]; done) | (simp [idxBy_len]; done) | (simp [marks_len]; done) | (simp at *; omega)) (by first | rfl | omega | (simp; done) | (simp; omega) | (simp [upN_len]; omega) | (simp [idxBy_len]; omega) | (simp [marks_len]; omega) | (simp [upN_len]; done) | (simp [idxBy_len]; done) | (simp [marks_len]; done) | (simp at *; omega)) (fun ib45 ia45 => ?_)
            refine DJ.yd 10 rfl (by kernel_rfl) (by kernel_rfl) (by kernel_rfl) rfl rfl (Yd.mvS rfl) ?_
            refine DJ.yd 11 rfl (by kernel_rfl) (by kernel_rfl) (by kernel_rfl) rfl rfl (Yd.mvI rfl) ?_
            refine DJ.idxR 0 rfl 12 rfl (by kernel_rfl) (by kernel_rfl) (by kernel_rfl) rfl rfl rfl rfl (by omega) (by first | rfl | omega | (simp; done) | (simp; omega) | (simp [upN_len]; omega) | (simp [idxBy_len]; omega) | (simp [marks_len]; omega) | (simp [upN_len]; done) | (simp [idxBy_len]; done) | (simp [marks_len]; done) | (simp at *; omega)) (by first | rfl | omega | (simp; done) | (simp; omega) | (simp [upN_len]; omega) | (simp [idxBy_len]; omega) | (simp [marks_len]; omega) | (simp [upN_len]; done) | (simp [idxBy_len]; done) | (simp [marks_len]; done) | (simp at *; omega)) (fun ib49 ia49 => ?_)
            refine DJ.two (i := 9) (j := 13) (by kernel_rfl) ?_ ?_
            · refine DO.ldR rfl rfl rfl 0 0 (fun u => vI u) (fun _ => rfl) rfl ia45 rfl rfl (by first | rfl | omega | (simp; done) | (simp; omega) | (simp [upN_len]; omega) | (simp [idxBy_len]; omega) | (simp [marks_len]; omega) | (simp [upN_len]; done) | (simp [idxBy_len]; done) | (simp [marks_len]; done) | (simp at *; omega)) (fun u46 hu46 => ?_)
              try simp only [Int.toNat_natCast] at hu46
              refine DJ.one (i := 13) (by kernel_rfl) ?_
              refine DO.ldR rfl rfl rfl 0 0 (fun u => vI u) (fun _ => rfl) rfl ia49 rfl rfl (by first | rfl | omega | (simp; done) | (simp; omega) | (simp [upN_len]; omega) | (simp [idxBy_len]; omega) | (simp [marks_len]; omega) | (simp [upN_len]; done) | (simp [idxBy_len]; done) | (simp [marks_len]; done) | (simp at *; omega)) (fun u50 hu50 => ?_)
              try simp only [Int.toNat_natCast] at hu50
              refine DJ.idxR 0 rfl 14 rfl (by kernel_rfl) (by kernel_rfl) (by kernel_rfl) rfl rfl rfl rfl (by omega) (by first | rfl | omega | (simp; done) | (simp; omega) | (simp [upN_len]; omega) | (simp [idxBy_len]; omega) | (simp [marks_len]; omega) | (simp [upN_len]; done) | (simp [idxBy_len]; done) | (simp [marks_len]; done) | (simp at *; omega)) (by first | rfl | omega | (simp; done) | (simp; omega) | (simp [upN_len]; omega) | (simp [idxBy_len]; omega) | (simp [marks_len]; omega) | (simp [upN_len]; done) | (simp [idxBy_len]; done) | (simp [marks_len]; done) | (simp at *; omega)) (fun ib51 ia51 => ?_)
              refine DJ.one (i := 15) (by kernel_rfl) ?_
              refine DO.op rfl rfl rfl (fun k0 hk0 dk0 => OpR.st1 (enc := encI) (e1 := fun u => vI u) 0 (fun _ => rfl) (fun _ => rfl) (fun _ => rfl) rfl ia51 rfl rfl rfl (by first | rfl | omega | (simp; done) | (simp; omega) | (simp [upN_len]; omega) | (simp [idxBy_len]; omega) | (simp [marks_len]; omega) | (simp [upN_len]; done) | (simp [idxBy_len]; done) | (simp [marks_len]; done) | (simp at *; omega))) ?_
              rintro _ _ ⟨rfl, rfl⟩
              refine DJ.norm [] [_] rfl rfl ?_
              refine DJ.idxR 0 rfl 16 rfl (by kernel_rfl) (by kernel_rfl) (by kernel_rfl) rfl rfl rfl rfl (by omega) (by first | rfl | omega | (simp; done) | (simp; omega) | (simp [upN_len]; omega) | (simp [idxBy_len]; omega) | (simp [marks_len]; omega) | (simp [upN_len]; done) | (simp [idxBy_len]; done) | (simp [marks_len]; done) | (simp at *; omega)) (by first | rfl | omega | (simp; done) | (simp; omega) | (simp [upN_len]; omega) | (simp [idxBy_len]; omega) | (simp [marks_len]; omega) | (simp [upN_len]; done) | (simp [idxBy_len]; done) | (simp [marks_len]; done) | (simp at *; omega)) (fun ib52 ia52 => ?_)
              refine DJ.one (i := 17) (by kernel_rfl) ?_
              refine DO.op rfl rfl rfl (fun k0 hk0 dk0 => OpR.st1 (enc := encI) (e1 := fun u => vI u) 0 (fun _ => rfl) (fun _ => rfl) (fun _ => rfl) rfl ia52 rfl rfl rfl (by first | rfl | omega | (simp; done) | (simp; omega) | (simp [upN_len]; omega) | (simp [idxBy_len]; omega) | (simp [marks_len]; omega) | (simp [upN_len]; done) | (simp [idxBy_len]; done) | (simp [marks_len]; done) | (simp at *; omega))) ?_
              rintro _ _ ⟨rfl, rfl⟩
              refine DJ.norm [] [_] rfl rfl ?_
              refine DJ.done (by kernel_rfl) ?_
              rw [ht, mid_prev hv (by omega)] at hu46
              rw [ht, mid_at (by omega) (by omega)] at hu50
              cases hu46
              cases hu50
              refine CJ.norm [LR encI 3 1 (some ⟨g, 0, none⟩) c (amid P p (S.drop (z + 1 - P.length).toNat ++ Q) x (j - 1 - P.length).toNat)] ?_ ?_
              · refine congrArg (fun z => [LR encI 3 1 (some ⟨g, 0, none⟩) c z]) ?_
                rw [ht, show (j - 1 - P.length).toNat = t by omega]
                first
                  | exact mid_down hv (by omega) (by omega)
                  | (rw [List.set_comm _ _ (by omega)]; exact mid_down hv (by omega) (by omega))
              refine CJ.region ?_
              refine LJ.yd rfl (Yd.mvI rfl) ?_
              refine LJ.yd rfl (Yd.sub rfl rfl (by unfold I64; omega)) ?_
              refine LJ.yd rfl (Yd.asI rfl) ?_
              refine LJ.nil ?_
              refine ⟨_, ?_, ⟨rfl, rfl, rfl, rfl, rfl, rfl, rfl, rfl, rfl, trivial⟩, ⟨rfl, trivial⟩, Ent.refl _, ?_⟩
              · refine ⟨by omega, by omega, ?_⟩
                rw [← hj2, show (j - 1 - P.length).toNat = t by omega, ht]
                have := ins_step (lt := lt) (p := p) (x := x) (j := t + 1) (by omega) (by simpa using hv) (hc32.1 h33)
                simpa using this.symm
              · first | omega | (dsimp only; omega) | (simp only []; omega)
            · refine DO.ldR rfl rfl rfl 0 0 (fun u => vI u) (fun _ => rfl) rfl ia49 rfl rfl (by first | rfl | omega | (simp; done) | (simp; omega) | (simp [upN_len]; omega) | (simp [idxBy_len]; omega) | (simp [marks_len]; omega) | (simp [upN_len]; done) | (simp [idxBy_len]; done) | (simp [marks_len]; done) | (simp at *; omega)) (fun u50 hu50 => ?_)
              try simp only [Int.toNat_natCast] at hu50
              refine DJ.one (i := 9) (by kernel_rfl) ?_
              refine DO.ldR rfl rfl rfl 0 0 (fun u => vI u) (fun _ => rfl) rfl ia45 rfl rfl (by first | rfl | omega | (simp; done) | (simp; omega) | (simp [upN_len]; omega) | (simp [idxBy_len]; omega) | (simp [marks_len]; omega) | (simp [upN_len]; done) | (simp [idxBy_len]; done) | (simp [marks_len]; done) | (simp at *; omega)) (fun u46 hu46 => ?_)
              try simp only [Int.toNat_natCast] at hu46
              refine DJ.idxR 0 rfl 14 rfl (by kernel_rfl) (by kernel_rfl) (by kernel_rfl) rfl rfl rfl rfl (by omega) (by first | rfl | omega | (simp; done) | (simp; omega) | (simp [upN_len]; omega) | (simp [idxBy_len]; omega) | (simp [marks_len]; omega) | (simp [upN_len]; done) | (simp [idxBy_len]; done) | (simp [marks_len]; done) | (simp at *; omega)) (by first | rfl | omega | (simp; done) | (simp; omega) | (simp [upN_len]; omega) | (simp [idxBy_len]; omega) | (simp [marks_len]; omega) | (simp [upN_len]; done) | (simp [idxBy_len]; done) | (simp [marks_len]; done) | (simp at *; omega)) (fun ib51 ia51 => ?_)
              refine DJ.one (i := 15) (by kernel_rfl) ?_
              refine DO.op rfl rfl rfl (fun k0 hk0 dk0 => OpR.st1 (enc := encI) (e1 := fun u => vI u) 0 (fun _ => rfl) (fun _ => rfl) (fun _ => rfl) rfl ia51 rfl rfl rfl (by first | rfl | omega | (simp; done) | (simp; omega) | (simp [upN_len]; omega) | (simp [idxBy_len]; omega) | (simp [marks_len]; omega) | (simp [upN_len]; done) | (simp [idxBy_len]; done) | (simp [marks_len]; done) | (simp at *; omega))) ?_
              rintro _ _ ⟨rfl, rfl⟩
              refine DJ.norm [] [_] rfl rfl ?_
              refine DJ.idxR 0 rfl 16 rfl (by kernel_rfl) (by kernel_rfl) (by kernel_rfl) rfl rfl rfl rfl (by omega) (by first | rfl | omega | (simp; done) | (simp; omega) | (simp [upN_len]; omega) | (simp [idxBy_len]; omega) | (simp [marks_len]; omega) | (simp [upN_len]; done) | (simp [idxBy_len]; done) | (simp [marks_len]; done) | (simp at *; omega)) (by first | rfl | omega | (simp; done) | (simp; omega) | (simp [upN_len]; omega) | (simp [idxBy_len]; omega) | (simp [marks_len]; omega) | (simp [upN_len]; done) | (simp [idxBy_len]; done) | (simp [marks_len]; done) | (simp at *; omega)) (fun ib52 ia52 => ?_)
              refine DJ.one (i := 17) (by kernel_rfl) ?_
              refine DO.op rfl rfl rfl (fun k0 hk0 dk0 => OpR.st1 (enc := encI) (e1 := fun u => vI u) 0 (fun _ => rfl) (fun _ => rfl) (fun _ => rfl) rfl ia52 rfl rfl rfl (by first | rfl | omega | (simp; done) | (simp; omega) | (simp [upN_len]; omega) | (simp [idxBy_len]; omega) | (simp [marks_len]; omega) | (simp [upN_len]; done) | (simp [idxBy_len]; done) | (simp [marks_len]; done) | (simp at *; omega))) ?_
              rintro _ _ ⟨rfl, rfl⟩
              refine DJ.norm [] [_] rfl rfl ?_
              refine DJ.done (by kernel_rfl) ?_
              rw [ht, mid_prev hv (by omega)] at hu46
              rw [ht, mid_at (by omega) (by omega)] at hu50
              cases hu46
              cases hu50
              refine CJ.norm [LR encI 3 1 (some ⟨g, 0, none⟩) c (amid P p (S.drop (z + 1 - P.length).toNat ++ Q) x (j - 1 - P.length).toNat)] ?_ ?_
              · refine congrArg (fun z => [LR encI 3 1 (some ⟨g, 0, none⟩) c z]) ?_
                rw [ht, show (j - 1 - P.length).toNat = t by omega]
                first
                  | exact mid_down hv (by omega) (by omega)
                  | (rw [List.set_comm _ _ (by omega)]; exact mid_down hv (by omega) (by omega))
              refine CJ.region ?_
              refine LJ.yd rfl (Yd.mvI rfl) ?_
              refine LJ.yd rfl (Yd.sub rfl rfl (by unfold I64; omega)) ?_
              refine LJ.yd rfl (Yd.asI rfl) ?_
              refine LJ.nil ?_
              refine ⟨_, ?_, ⟨rfl, rfl, rfl, rfl, rfl, rfl, rfl, rfl, rfl, trivial⟩, ⟨rfl, trivial⟩, Ent.refl _, ?_⟩
              · refine ⟨by omega, by omega, ?_⟩
                rw [← hj2, show (j - 1 - P.length).toNat = t by omega, ht]
                have := ins_step (lt := lt) (p := p) (x := x) (j := t + 1) (by omega) (by simpa using hv) (hc32.1 h33)
                simpa using this.symm
              · first | omega | (dsimp only; omega) | (simp only []; omega)
          · refine DJ.yd 16 rfl (by kernel_rfl) (by kernel_rfl) (by kernel_rfl) rfl rfl (Yd.pickTB rfl rfl) ?_
            refine DJ.done (by kernel_rfl) ?_
            refine CJ.condF rfl ?_
            refine CJ.exit ?_
            have e2 : amid P p (S.drop (z + 1 - P.length).toNat ++ Q) x (j - P.length).toNat = P ++ ((ins lt x p.reverse).reverse ++ (S.drop (z + 1 - P.length).toNat ++ Q)) := by
              rw [← hj2]; unfold amid
              first
                | (have e3 : (j - P.length).toNat = 0 := by omega
                   rw [e3, ins_zero]; simp; done)
                | (rw [ht, ins_stop (j := t + 1) (by omega) (by simpa using hv) (fun h => h33 (hc32.2 h))]; simp; done)
            refine CJ.norm [LR encI 3 1 (some ⟨g, 0, none⟩) c (P ++ ((ins lt x p.reverse).reverse ++ (S.drop (z + 1 - P.length).toNat ++ Q)))] (by rw [e2]; rfl) ?_
            refine CJ.region ?_
            refine LJ.yd rfl (Yd.mvI rfl) ?_
            refine LJ.yd rfl (Yd.add rfl rfl (by unfold I64; omega)) ?_
            refine LJ.yd rfl (Yd.asI rfl) ?_
            refine LJ.nil ?_
            refine ⟨(z + 1, (ins lt x p.reverse).reverse), ?_, ⟨rfl, rfl, rfl, rfl, trivial⟩, ⟨rfl, trivial⟩, Ent.refl _, ?_⟩
            · refine ⟨by omega, by omega, by rw [List.length_reverse, ins_length, List.length_reverse]; omega, by rw [← hpi, dropC hx, show (z + 1 - P.length).toNat = (z - P.length).toNat + 1 by omega]; rfl, fun q hq => ?_⟩
              rw [List.mem_reverse, ins_mem, List.mem_reverse] at hq
              rcases hq with rfl | hq
              · exact hDx
              · exact hpd q hq
            · first | omega | (dsimp only; omega) | (simp only []; omega)
        · refine DJ.yd 3 rfl (by kernel_rfl) (by kernel_rfl) (by kernel_rfl) rfl rfl (Yd.mvB rfl) ?_
          refine DJ.skip 4 rfl (by kernel_rfl) (by kernel_rfl) (by kernel_rfl) rfl rfl ?_
          refine DJ.skip 5 rfl (by kernel_rfl) (by kernel_rfl) (by kernel_rfl) rfl rfl ?_
          refine DJ.skip 6 rfl (by kernel_rfl) (by kernel_rfl) (by kernel_rfl) rfl rfl ?_
          refine DJ.skip 7 rfl (by kernel_rfl) (by kernel_rfl) (by kernel_rfl) rfl rfl ?_
          refine DJ.skip 8 rfl (by kernel_rfl) (by kernel_rfl) (by kernel_rfl) rfl rfl ?_
          refine DJ.skip 9 rfl (by kernel_rfl) (by kernel_rfl) (by kernel_rfl) rfl rfl ?_
          refine DJ.skip 10 rfl (by kernel_rfl) (by kernel_rfl) (by kernel_rfl) rfl rfl ?_
          refine DJ.skip 11 rfl (by kernel_rfl) (by kernel_rfl) (by kernel_rfl) rfl rfl ?_
          refine DJ.skip 12 rfl (by kernel_rfl) (by kernel_rfl) (by kernel_rfl) rfl rfl ?_
          refine DJ.skip 13 rfl (by kernel_rfl) (by kernel_rfl) (by kernel_rfl) rfl rfl ?_
          refine DJ.skip 14 rfl (by kernel_rfl) (by kernel_rfl) (by kernel_rfl) rfl rfl ?_
          refine DJ.skip 15 rfl (by kernel_rfl) (by kernel_rfl) (by kernel_rfl) rfl rfl ?_
          refine DJ.yd 16 rfl (by kernel_rfl) (by kernel_rfl) (by kernel_rfl) rfl rfl (Yd.pickFB rfl rfl) ?_
          refine DJ.done (by kernel_rfl) ?_
          refine CJ.condF rfl ?_
          refine CJ.exit ?_
          have e2 : amid P p (S.drop (z + 1 - P.length).toNat ++ Q) x (j - P.length).toNat = P ++ ((ins lt x p.reverse).reverse ++ (S.drop (z + 1 - P.length).toNat ++ Q)) := by
            rw [← hj2]; unfold amid
            first
              | (have e3 : (j - P.length).toNat = 0 := by omega
                 rw [e3, ins_zero]; simp; done)
              | (rw [ht, ins_stop (j := t + 1) (by omega) (by simpa using hv) (fun h => h33 (hc32.2 h))]; simp; done)
          refine CJ.norm [LR encI 3 1 (some ⟨g, 0, none⟩) c (P ++ ((ins lt x p.reverse).reverse ++ (S.drop (z + 1 - P.length).toNat ++ Q)))] (by rw [e2]; rfl) ?_
          refine CJ.region ?_
          refine LJ.yd rfl (Yd.mvI rfl) ?_
          refine LJ.yd rfl (Yd.add rfl rfl (by unfold I64; omega)) ?_
          refine LJ.yd rfl (Yd.asI rfl) ?_
          refine LJ.nil ?_
          refine ⟨(z + 1, (ins lt x p.reverse).reverse), ?_, ⟨rfl, rfl, rfl, rfl, trivial⟩, ⟨rfl, trivial⟩, Ent.refl _, ?_⟩
          · refine ⟨by omega, by omega, by rw [List.length_reverse, ins_length, List.length_reverse]; omega, by rw [← hpi, dropC hx, show (z + 1 - P.length).toNat = (z - P.length).toNat + 1 by omega]; rfl, fun q hq => ?_⟩
            rw [List.mem_reverse, ins_mem, List.mem_reverse] at hq
            rcases hq with rfl | hq
            · exact hDx
            · exact hpd q hq
          · first | omega | (dsimp only; omega) | (simp only []; omega)
    · refine LJ.nil ?_
      refine CJ.condF rfl ?_
      refine CJ.exit ?_
      refine Fin.ofRet ?_
      have e4 : P ++ (p ++ (S.drop (z - P.length).toNat ++ Q)) = P ++ (insAll lt [] S ++ Q) := by
        rw [← hpi, List.drop_of_length_le (by omega)]; rfl
      refine Fin.R [_] Res.none ⟨rfl, rfl⟩ ?_
      rw [← e4]; exact Ent.refl _
end Go.Proofs.Ytbgalcjkmgdaiaa
