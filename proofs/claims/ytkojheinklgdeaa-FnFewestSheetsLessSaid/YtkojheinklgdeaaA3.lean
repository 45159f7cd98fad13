/-
  Go's stable sort on at most twenty numbers: its contract.
-/
import Derived.Test.YtkojheinklgdeaaA2
namespace Go.Proofs.Ytkojheinklgdeaa
open Go
set_option maxRecDepth 20000
set_option maxHeartbeats 1000000

theorem insSort0_ok {A : Amb} {f v : Value} {a b : Int} (h : b ≤ a + 1) (ha : 0 ≤ a) (hb : a ≤ 1000) : Ctr Try.prog 99 #[v, vI a, vI b, f] A [] (Val (.tuple #[])) := by
  refine Ctr.body (args := [_, _, _, _]) Try.func99 rfl Try.ntmps99 Try.results99 (by simp) ?_
  refine CJ.seq ?_
  refine CJ.region ?_
  refine LJ.yd rfl (Yd.mvI rfl) ?_
  refine LJ.yd rfl (Yd.add rfl rfl (by unfold I64; omega)) ?_
  refine LJ.yd rfl (Yd.asI rfl) ?_
  refine LJ.nil ?_
  refine CJ.block ?_
  refine CJ.loopK [0, 1, 2, 3] Int (fun x => x = a + 1) (fun x => [(8, vI x)]) (fun x => 0) (a + 1) ?_ ⟨rfl, trivial⟩ ?_
  · exact by rfl
  · rintro x σ hi1
    replace hi1 : x = a + 1 := hi1
    refine CJ.seq ?_
    refine CJ.seq ?_
    refine CJ.region ?_
    refine LJ.yd rfl (Yd.mvI rfl) ?_
    refine LJ.yd rfl (Yd.mvI rfl) ?_
    refine LJ.splitD rfl (Yd.lss rfl rfl) (fun h14 => ?_) (fun h14 => ?_)
    · exfalso; omega
    · refine LJ.nil ?_
      refine CJ.condF rfl ?_
      refine CJ.exit ?_
      refine Fin.ofRet ?_
      refine Fin.V Res.none ?_
      rfl
theorem insSort_ok {A : Amb} {F : FuncId} {caps : List Value} {D : Int → Prop} {lt : Int → Int → Bool} {g c : Nat} {l : List Int} [TyFn Try.prog F] (hc : Cmp A F caps D lt) (hl : ∀ x ∈ l, D x) (h0 : 0 < l.length) (h1 : l.length ≤ 1000) {m : Int} (hm : m = l.length) :
    Ctr Try.prog 99 #[.slice (some ⟨g, 0, none⟩) l.length c, vI 0, vI m, .func (.func F) #[] caps.toArray] A [LR encI 3 1 (some ⟨g, 0, none⟩) c l] (fun v gs => v = .tuple #[] ∧ gs = [LR encI 3 1 (some ⟨g, 0, none⟩) c (insAll lt [] l)]) := by
  subst hm
  refine Ctr.body (args := [_, _, _, _]) Try.func99 rfl Try.ntmps99 Try.results99 (by simp) ?_
  refine CJ.seq ?_
  refine CJ.region ?_
  refine LJ.yd rfl (Yd.mvI rfl) ?_
  refine LJ.yd rfl (Yd.add rfl rfl (by unfold I64; omega)) ?_
  refine LJ.yd rfl (Yd.asI rfl) ?_
  refine LJ.nil ?_
  refine CJ.block ?_
  refine CJ.norm [LR encI 3 1 (some ⟨g, 0, none⟩) c (l.take 1 ++ l.drop 1)] (by rw [List.take_append_drop]) ?_
  refine CJ.loopF [0, 1, 2, 3] (Nat × List Int) (fun ⟨k, p⟩ => k ≤ l.length ∧ 0 < k ∧ p.length = k ∧ insAll lt p (l.drop k) = insAll lt [] l ∧ ∀ z ∈ p, D z) (fun ⟨k, p⟩ => [(8, vI k)]) (fun ⟨k, p⟩ => [LR encI 3 1 (some ⟨g, 0, none⟩) c (p ++ l.drop k)]) (fun ⟨k, p⟩ => l.length - k) (1, l.take 1) [] [] [0] rfl rfl rfl ?_ ⟨rfl, trivial⟩ ?_
  · exact ⟨by omega, by omega, by rw [List.length_take]; omega, by
          obtain ⟨y, hy⟩ := someC (l := l) (j := 0) (by omega)
          conv => rhs; rw [← List.drop_zero (l := l), dropC hy]
          rw [takeC hy]; rfl, fun z hz => hl z (List.mem_of_mem_take hz)⟩
  · rintro ⟨k, p⟩ σ ⟨hk1, hk0, hpl, hpi, hpd⟩
    refine CJ.norm [_] rfl ?_
    refine CJ.seq ?_
    refine CJ.seq ?_
    refine CJ.region ?_
    refine LJ.yd rfl (Yd.mvI rfl) ?_
    refine LJ.yd rfl (Yd.mvI rfl) ?_
    refine LJ.splitD rfl (Yd.lss rfl rfl) (fun h14 => ?_) (fun h14 => ?_)
    · refine LJ.nil ?_
      refine CJ.condT rfl ?_
      refine CJ.skip ?_
      refine CJ.seq ?_
      refine CJ.block ?_
      refine CJ.seq ?_
      refine CJ.region ?_
      refine LJ.yd rfl (Yd.mvI rfl) ?_
      refine LJ.yd rfl (Yd.asI rfl) ?_
      refine LJ.nil ?_
      refine CJ.block ?_
      obtain ⟨x, hx⟩ := someC (l := l) (j := k) (by omega)
      have hDx := hl x (List.mem_of_getElem? hx)
      refine CJ.norm [LR encI 3 1 (some ⟨g, 0, none⟩) c (midL p x (l.drop (k + 1)) (k : Int).toNat)] (by rw [dropC hx]; simp [midL, ← hpl]) ?_
      refine CJ.loopF [0, 1, 2, 3, 8, 12, 13, 14, 17] Int (fun j => 0 ≤ j ∧ j ≤ k ∧ (ins lt x (p.take j.toNat).reverse).reverse ++ p.drop j.toNat = (ins lt x p.reverse).reverse) (fun j => [(9, vI j)]) (fun j => [LR encI 3 1 (some ⟨g, 0, none⟩) c (midL p x (l.drop (k + 1)) j.toNat)]) (fun j => j.toNat) (k) [] [] [0] rfl rfl rfl ?_ ⟨rfl, trivial⟩ ?_
      · exact ⟨by omega, by omega, by rw [Int.toNat_natCast, ← hpl]; exact ins_full⟩
      · rintro j σ ⟨hj0, hj1, hj2⟩
        refine CJ.norm [_] rfl ?_
        have hml : (midL p x (l.drop (k + 1)) j.toNat).length = l.length := by rw [midL_length (by omega)]; simp; omega
        refine CJ.seq ?_
        refine CJ.seq ?_
        refine CJ.regionD [0] [] (by kernel_rfl) rfl ?_
        refine DJ.norm [_] [] rfl rfl ?_
        refine DJ.yd 0 rfl (by kernel_rfl) (by kernel_rfl) (by kernel_rfl) rfl rfl (Yd.mvI rfl) ?_
        refine DJ.yd 1 rfl (by kernel_rfl) (by kernel_rfl) (by kernel_rfl) rfl rfl (Yd.mvI rfl) ?_
        refine DJ.splitD 2 rfl (by kernel_rfl) (by kernel_rfl) (by kernel_rfl) rfl rfl (Yd.gtr rfl rfl) (fun h20 => ?_) (fun h20 => ?_)
        · refine DJ.yd 3 rfl (by kernel_rfl) (by kernel_rfl) (by kernel_rfl) rfl rfl (Yd.mvB rfl) ?_
          refine DJ.yd 4 rfl (by kernel_rfl) (by kernel_rfl) (by kernel_rfl) rfl rfl (Yd.mvF rfl) ?_
          refine DJ.yd 5 rfl (by kernel_rfl) (by kernel_rfl) (by kernel_rfl) rfl rfl (Yd.mvS rfl) ?_
          refine DJ.yd 6 rfl (by kernel_rfl) (by kernel_rfl) (by kernel_rfl) rfl rfl (Yd.mvI rfl) ?_
          refine DJ.idxF 0 rfl 7 rfl (by kernel_rfl) (by kernel_rfl) (by kernel_rfl) rfl rfl rfl rfl (by omega) (by first | rfl | omega | (simp; done) | (simp; omega) | (simp [upN_len]; omega) | (simp [idxBy_len]; omega) | (simp [marks_len]; omega) | (simp [upN_len]; done) | (simp [idxBy_len]; done) | (simp [marks_len]; done) | (simp at *; omega)) (by first | rfl | omega | (simp; done) | (simp; omega) | (simp [upN_len]; omega) | (simp [idxBy_len]; omega) | (simp [marks_len]; omega) | (simp [upN_len]; done) | (simp [idxBy_len]; done) | (simp [marks_len]; done) | (simp at *; omega)) (fun ib25 ia25 => ?_)
          refine DJ.ldF 8 rfl (by kernel_rfl) (by kernel_rfl) (by kernel_rfl) rfl rfl 0 0 (fun u => vI u) (fun _ => rfl) rfl ia25 rfl rfl (by first | rfl | omega | (simp; done) | (simp; omega) | (simp [upN_len]; omega) | (simp [idxBy_len]; omega) | (simp [marks_len]; omega) | (simp [upN_len]; done) | (simp [idxBy_len]; done) | (simp [marks_len]; done) | (simp at *; omega)) (fun u26 hu26 => ?_)
          try simp only [Int.toNat_natCast] at hu26
          obtain rfl : x = u26 := by rw [midL_at (by omega)] at hu26; exact Option.some.inj hu26
          refine DJ.yd 9 rfl (by kernel_rfl) (by kernel_rfl) (by kernel_rfl) rfl rfl (Yd.mvS rfl) ?_
          refine DJ.yd 10 rfl (by kernel_rfl) (by kernel_rfl) (by kernel_rfl) rfl rfl (Yd.mvI rfl) ?_
          refine DJ.yd 11 rfl (by kernel_rfl) (by kernel_rfl) (by kernel_rfl) rfl rfl (Yd.sub rfl rfl (by unfold I64; omega)) ?_
          refine DJ.idxF 0 rfl 12 rfl (by kernel_rfl) (by kernel_rfl) (by kernel_rfl) rfl rfl rfl rfl (by omega) (by first | rfl | omega | (simp; done) | (simp; omega) | (simp [upN_len]; omega) | (simp [idxBy_len]; omega) | (simp [marks_len]; omega) | (simp [upN_len]; done) | (simp [idxBy_len]; done) | (simp [marks_len]; done) | (simp at *; omega)) (by first | rfl | omega | (simp; done) | (simp; omega) | (simp [upN_len]; omega) | (simp [idxBy_len]; omega) | (simp [marks_len]; omega) | (simp [upN_len]; done) | (simp [idxBy_len]; done) | (simp [marks_len]; done) | (simp at *; omega)) (fun ib30 ia30 => ?_)
          refine DJ.ldF 13 rfl (by kernel_rfl) (by kernel_rfl) (by kernel_rfl) rfl rfl 0 0 (fun u => vI u) (fun _ => rfl) rfl ia30 rfl rfl (by first | rfl | omega | (simp; done) | (simp; omega) | (simp [upN_len]; omega) | (simp [idxBy_len]; omega) | (simp [marks_len]; omega) | (simp [upN_len]; done) | (simp [idxBy_len]; done) | (simp [marks_len]; done) | (simp at *; omega)) (fun u31 hu31 => ?_)
          try simp only [Int.toNat_natCast] at hu31
          have e31 : (j - 1).toNat = j.toNat - 1 := by omega
          rw [e31, midL_before (by omega) (by omega)] at hu31
          have hD31 := hpd u31 (List.mem_of_getElem? hu31)
          refine DJ.one (i := 14) (by kernel_rfl) ?_
          refine DO.callD0 rfl rfl rfl rfl (fun k0 hk0 dk0 k hk dk => hc ((A.ext k0).ext k) inferInstance _ _ hDx hD31) ?_
          rintro _ _ ⟨c32, rfl, rfl, hc32⟩
          refine DJ.norm [_] [] rfl rfl ?_
          refine DJ.splitD 15 rfl (by kernel_rfl) (by kernel_rfl) (by kernel_rfl) rfl rfl (Yd.lss rfl rfl) (fun h33 => ?_) (fun h33 => ?_)
          · refine DJ.yd 16 rfl (by kernel_rfl) (by kernel_rfl) (by kernel_rfl) rfl rfl (Yd.pickTB rfl rfl) ?_
            refine DJ.done (by kernel_rfl) ?_
            refine CJ.condT rfl ?_
            refine CJ.skip ?_
            refine CJ.seq ?_
            refine CJ.block ?_
            refine CJ.regionD [] [0] (by kernel_rfl) rfl ?_
            refine DJ.norm [] [_] rfl rfl ?_
            refine DJ.yd 0 rfl (by kernel_rfl) (by kernel_rfl) (by kernel_rfl) rfl rfl (Yd.mvS rfl) ?_
            refine DJ.yd 1 rfl (by kernel_rfl) (by kernel_rfl) (by kernel_rfl) rfl rfl (Yd.mvI rfl) ?_
            refine DJ.yd 2 rfl (by kernel_rfl) (by kernel_rfl) (by kernel_rfl) rfl rfl (Yd.mvS rfl) ?_
            refine DJ.yd 3 rfl (by kernel_rfl) (by kernel_rfl) (by kernel_rfl) rfl rfl (Yd.mvI rfl) ?_
            refine DJ.yd 4 rfl (by kernel_rfl) (by kernel_rfl) (by kernel_rfl) rfl rfl (Yd.sub rfl rfl (by unfold I64; omega)) ?_
            refine DJ.yd 5 rfl (by kernel_rfl) (by kernel_rfl) (by kernel_rfl) rfl rfl (Yd.mvS rfl) ?_
            refine DJ.yd 6 rfl (by kernel_rfl) (by kernel_rfl) (by kernel_rfl) rfl rfl (Yd.mvI rfl) ?_
            refine DJ.yd 7 rfl (by kernel_rfl) (by kernel_rfl) (by kernel_rfl) rfl rfl (Yd.sub rfl rfl (by unfold I64; omega)) ?_
            refine DJ.idxR 0 rfl 8 rfl (by kernel_rfl) (by kernel_rfl) (by kernel_rfl) rfl rfl rfl rfl (by omega) (by first | rfl | omega | (simp; done) | (simp; omega) | (simp [upN_len]; omega) | (simp [idxBy_len]; omega) | (simp [marks_len]; omega) | (simp [upN_len]; done) | (simp [idxBy_len]; done) | (simp [marks_len]; done) | (simp at *; omega)) (by first | rfl | omega | (simp; done) | (simp; omega) | (simp [upN_len]; omega) | (simp [idxBy_len]; omega) | (simp [marks_len]; omega) | (simp [upN_len]; done) | (simp [idxBy_len]; done) | (simp [marks_len]; done) | (simp at *; omega)) (fun ib45 ia45 => ?_)
            refine DJ.yd 10 rfl (by kernel_rfl) (by kernel_rfl) (by kernel_rfl) rfl rfl (Yd.mvS rfl) ?_
            refine DJ.yd 11 rfl (by kernel_rfl) (by kernel_rfl) (by kernel_rfl) rfl rfl (Yd.mvI rfl) ?_
            refine DJ.idxR 0 rfl 12 rfl (by kernel_rfl) (by kernel_rfl) (by kernel_rfl) rfl rfl rfl rfl (by omega) (by first | rfl | omega | (simp; done) | (simp; omega) | (simp [upN_len]; omega) | (simp [idxBy_len]; omega) | (simp [marks_len]; omega) | (simp [upN_len]; done) | (simp [idxBy_len]; done) | (simp [marks_len]; done) | (simp at *; omega)) (by first | rfl | omega | (simp; done) | (simp; omega) | (simp [upN_len]; omega) | (simp [idxBy_len]; omega) | (simp [marks_len]; omega) | (simp [upN_len]; done) | (simp [idxBy_len]; done) | (simp [marks_len]; done) | (simp at *; omega)) (fun ib49 ia49 => ?_)
            refine DJ.two (i := 9) (j := 13) (by kernel_rfl) ?_ ?_
            · refine DO.ldR rfl rfl rfl 0 0 (fun u => vI u) (fun _ => rfl) rfl ia45 rfl rfl (by first | rfl | omega | (simp; done) | (simp; omega) | (simp [upN_len]; omega) | (simp [idxBy_len]; omega) | (simp [marks_len]; omega) | (simp [upN_len]; done) | (simp [idxBy_len]; done) | (simp [marks_len]; done) | (simp at *; omega)) (fun u46 hu46 => ?_)
              try simp only [Int.toNat_natCast] at hu46
              refine DJ.one (i := 13) (by kernel_rfl) ?_
              refine DO.ldR rfl rfl rfl 0 0 (fun u => vI u) (fun _ => rfl) rfl ia49 rfl rfl (by first | rfl | omega | (simp; done) | (simp; omega) | (simp [upN_len]; omega) | (simp [idxBy_len]; omega) | (simp [marks_len]; omega) | (simp [upN_len]; done) | (simp [idxBy_len]; done) | (simp [marks_len]; done) | (simp at *; omega)) (fun u50 hu50 => ?_)
              try simp only [Int.toNat_natCast] at hu50
              refine DJ.idxR 0 rfl 14 rfl (by kernel_rfl) (by kernel_rfl) (by kernel_rfl) rfl rfl rfl rfl (by omega) (by first | rfl | omega | (simp; done) | (simp; omega) | (simp [upN_len]; omega) | (simp [idxBy_len]; omega) | (simp [marks_len]; omega) | (simp [upN_len]; done) | (simp [idxBy_len]; done) | (simp [marks_len]; done) | (simp at *; omega)) (by first | rfl | omega | (simp; done) | (simp; omega) | (simp [upN_len]; omega) | (simp [idxBy_len]; omega) | (simp [marks_len]; omega) | (simp [upN_len]; done) | (simp [idxBy_len]; done) | (simp [marks_len]; done) | (simp at *; omega)) (fun ib51 ia51 => ?_)
              refine DJ.one (i := 15) (by kernel_rfl) ?_
              refine DO.op rfl rfl rfl (fun k0 hk0 dk0 => OpR.st1 (enc := encI) (e1 := fun u => vI u) 0 (fun _ => rfl) (fun _ => rfl) (fun _ => rfl) rfl ia51 rfl rfl rfl (by first | rfl | omega | (simp; done) | (simp; omega) | (simp [upN_len]; omega) | (simp [idxBy_len]; omega) | (simp [marks_len]; omega) | (simp [upN_len]; done) | (simp [idxBy_len]; done) | (simp [marks_len]; done) | (simp at *; omega))) ?_
              rintro _ _ ⟨rfl, rfl⟩
              refine DJ.norm [] [_] rfl rfl ?_
              refine DJ.idxR 0 rfl 16 rfl (by kernel_rfl) (by kernel_rfl) (by kernel_rfl) rfl rfl rfl rfl (by omega) (by first | rfl | omega | (simp; done) | (simp; omega) | (simp [upN_len]; omega) | (simp [idxBy_len]; omega) | (simp [marks_len]; omega) | (simp [upN_len]; done) | (simp [idxBy_len]; done) | (simp [marks_len]; done) | (simp at *; omega)) (by first | rfl | omega | (simp; done) | (simp; omega) | (simp [upN_len]; omega) | (simp [idxBy_len]; omega) | (simp [marks_len]; omega) | (simp [upN_len]; done) | (simp [idxBy_len]; done) | (simp [marks_len]; done) | (simp at *; omega)) (fun ib52 ia52 => ?_)
              refine DJ.one (i := 17) (by kernel_rfl) ?_
              refine DO.op rfl rfl rfl (fun k0 hk0 dk0 => OpR.st1 (enc := encI) (e1 := fun u => vI u) 0 (fun _ => rfl) (fun _ => rfl) (fun _ => rfl) rfl ia52 rfl rfl rfl (by first | rfl | omega | (simp; done) | (simp; omega) | (simp [upN_len]; omega) | (simp [idxBy_len]; omega) | (simp [marks_len]; omega) | (simp [upN_len]; done) | (simp [idxBy_len]; done) | (simp [marks_len]; done) | (simp at *; omega))) ?_
              rintro _ _ ⟨rfl, rfl⟩
              refine DJ.norm [] [_] rfl rfl ?_
              refine DJ.done (by kernel_rfl) ?_
              refine CJ.norm [LR encI 3 1 (some ⟨g, 0, none⟩) c (midL p x (l.drop (k + 1)) (j - 1).toNat)] ?_ ?_
              · refine congrArg (fun z => [LR encI 3 1 (some ⟨g, 0, none⟩) c z]) ?_
                rw [e31, midL_before (by omega) (by omega)] at hu46
                rw [midL_at (by omega)] at hu50
                cases hu50
                rw [e31]
                first
                  | exact midL_swap (by omega) (by omega) hu46
                  | (rw [List.set_comm _ _ (by omega)]; exact midL_swap (by omega) (by omega) hu46)
              refine CJ.region ?_
              refine LJ.yd rfl (Yd.mvI rfl) ?_
              refine LJ.yd rfl (Yd.sub rfl rfl (by unfold I64; omega)) ?_
              refine LJ.yd rfl (Yd.asI rfl) ?_
              refine LJ.nil ?_
              refine ⟨_, ?_, ⟨rfl, rfl, rfl, rfl, rfl, rfl, rfl, rfl, rfl, trivial⟩, ⟨rfl, trivial⟩, Ent.refl _, ?_⟩
              · refine ⟨by omega, by omega, ?_⟩
                rw [← hj2, e31]; exact (ins_step (by omega) hu31 (hc32.1 h33)).symm
              · first | omega | (dsimp only; omega) | (simp only []; omega)
            · refine DO.ldR rfl rfl rfl 0 0 (fun u => vI u) (fun _ => rfl) rfl ia49 rfl rfl (by first | rfl | omega | (simp; done) | (simp; omega) | (simp [upN_len]; omega) | (simp [idxBy_len]; omega) | (simp [marks_len]; omega) | (simp [upN_len]; done) | (simp [idxBy_len]; done) | (simp [marks_len]; done) | (simp at *; omega)) (fun u50 hu50 => ?_)
              try simp only [Int.toNat_natCast] at hu50
              refine DJ.one (i := 9) (by kernel_rfl) ?_
              refine DO.ldR rfl rfl rfl 0 0 (fun u => vI u) (fun _ => rfl) rfl ia45 rfl rfl (by first | rfl | omega | (simp; done) | (simp; omega) | (simp [upN_len]; omega) | (simp [idxBy_len]; omega) | (simp [marks_len]; omega) | (simp [upN_len]; done) | (simp [idxBy_len]; done) | (simp [marks_len]; done) | (simp at *; omega)) (fun u46 hu46 => ?_)
              try simp only [Int.toNat_natCast] at hu46
              refine DJ.idxR 0 rfl 14 rfl (by kernel_rfl) (by kernel_rfl) (by kernel_rfl) rfl rfl rfl rfl (by omega) (by first | rfl | omega | (simp; done) | (simp; omega) | (simp [upN_len]; omega) | (simp [idxBy_len]; omega) | (simp [marks_len]; omega) | (simp [upN_len]; done) | (simp [idxBy_len]; done) | (simp [marks_len]; done) | (simp at *; omega)) (by first | rfl | omega | (simp; done) | (simp; omega) | (simp [upN_len]; omega) | (simp [idxBy_len]; omega) | (simp [marks_len]; omega) | (simp [upN_len]; done) | (simp [idxBy_len]; done) | (simp [marks_len]; done) | (simp at *; omega)) (fun ib51 ia51 => ?_)
              refine DJ.one (i := 15) (by kernel_rfl) ?_
              refine DO.op rfl rfl rfl (fun k0 hk0 dk0 => OpR.st1 (enc := encI) (e1 := fun u => vI u) 0 (fun _ => rfl) (fun _ => rfl) (fun _ => rfl) rfl ia51 rfl rfl rfl (by first | rfl | omega | (simp; done) | (simp; omega) | (simp [upN_len]; omega) | (simp [idxBy_len]; omega) | (simp [marks_len]; omega) | (simp [upN_len]; done) | (simp [idxBy_len]; done) | (simp [marks_len]; done) | (simp at *; omega))) ?_
              rintro _ _ ⟨rfl, rfl⟩
              refine DJ.norm [] [_] rfl rfl ?_
              refine DJ.idxR 0 rfl 16 rfl (by kernel_rfl) (by kernel_rfl) (by kernel_rfl) rfl rfl rfl rfl (by omega) (by first | rfl | omega | (simp; done) | (simp; omega) | (simp [upN_len]; omega) | (simp [idxBy_len]; omega) | (simp [marks_len]; omega) | (simp [upN_len]; done) | (simp [idxBy_len]; done) | (simp [marks_len]; done) | (simp at *; omega)) (by first | rfl | omega | (simp; done) | (simp; omega) | (simp [upN_len]; omega) | (simp [idxBy_len]; omega) | (simp [marks_len]; omega) | (simp [upN_len]; done) | (simp [idxBy_len]; done) | (simp [marks_len]; done) | (simp at *; omega)) (fun ib52 ia52 => ?_)
              refine DJ.one (i := 17) (by kernel_rfl) ?_
              refine DO.op rfl rfl rfl (fun k0 hk0 dk0 => OpR.st1 (enc := encI) (e1 := fun u => vI u) 0 (fun _ => rfl) (fun _ => rfl) (fun _ => rfl) rfl ia52 rfl rfl rfl (by first | rfl | omega | (simp; done) | (simp; omega) | (simp [upN_len]; omega) | (simp [idxBy_len]; omega) | (simp [marks_len]; omega) | (simp [upN_len]; done) | (simp [idxBy_len]; done) | (simp [marks_len]; done) | (simp at *; omega))) ?_
              rintro _ _ ⟨rfl, rfl⟩
              refine DJ.norm [] [_] rfl rfl ?_
              refine DJ.done (by kernel_rfl) ?_
              refine CJ.norm [LR encI 3 1 (some ⟨g, 0, none⟩) c (midL p x (l.drop (k + 1)) (j - 1).toNat)] ?_ ?_
              · refine congrArg (fun z => [LR encI 3 1 (some ⟨g, 0, none⟩) c z]) ?_
                rw [e31, midL_before (by omega) (by omega)] at hu46
                rw [midL_at (by omega)] at hu50
                cases hu50
                rw [e31]
                first
                  | exact midL_swap (by omega) (by omega) hu46
                  | (rw [List.set_comm _ _ (by omega)]; exact midL_swap (by omega) (by omega) hu46)
              refine CJ.region ?_
              refine LJ.yd rfl (Yd.mvI rfl) ?_
              refine LJ.yd rfl (Yd.sub rfl rfl (by unfold I64; omega)) ?_
              refine LJ.yd rfl (Yd.asI rfl) ?_
              refine LJ.nil ?_
              refine ⟨_, ?_, ⟨rfl, rfl, rfl, rfl, rfl, rfl, rfl, rfl, rfl, trivial⟩, ⟨rfl, trivial⟩, Ent.refl _, ?_⟩
              · refine ⟨by omega, by omega, ?_⟩
                rw [← hj2, e31]; exact (ins_step (by omega) hu31 (hc32.1 h33)).symm
              · first | omega | (dsimp only; omega) | (simp only []; omega)
          · refine DJ.yd 16 rfl (by kernel_rfl) (by kernel_rfl) (by kernel_rfl) rfl rfl (Yd.pickTB rfl rfl) ?_
            refine DJ.done (by kernel_rfl) ?_
            refine CJ.condF rfl ?_
            refine CJ.exit ?_
            have e2 : midL p x (l.drop (k + 1)) j.toNat = (ins lt x p.reverse).reverse ++ l.drop (k + 1) := by
              rw [← hj2]; unfold midL
              first
                | (have e3 : j.toNat = 0 := by omega
                   rw [e3, ins_zero]; simp; done)
                | (rw [ins_stop (by omega) hu31 (fun h => h33 (hc32.2 h))]; simp; done)
            refine CJ.norm [LR encI 3 1 (some ⟨g, 0, none⟩) c ((ins lt x p.reverse).reverse ++ l.drop (k + 1))] (by rw [e2]; rfl) ?_
            refine CJ.region ?_
            refine LJ.yd rfl (Yd.mvI rfl) ?_
            refine LJ.yd rfl (Yd.add rfl rfl (by unfold I64; omega)) ?_
            refine LJ.yd rfl (Yd.asI rfl) ?_
            refine LJ.nil ?_
            refine ⟨(k + 1, (ins lt x p.reverse).reverse), ?_, ⟨rfl, rfl, rfl, rfl, trivial⟩, ⟨rfl, trivial⟩, Ent.refl _, ?_⟩
            · refine ⟨by omega, by omega, by rw [List.length_reverse, ins_length, List.length_reverse]; omega, by rw [← hpi, dropC hx]; rfl, fun z hz => ?_⟩
              rw [List.mem_reverse, ins_mem, List.mem_reverse] at hz
              rcases hz with rfl | hz
              · exact hDx
              · exact hpd z hz
            · first | omega | (dsimp only; omega) | (simp only []; omega)
        · refine DJ.yd 3 rfl (by kernel_rfl) (by kernel_rfl) (by kernel_rfl) rfl rfl (Yd.mvB rfl) ?_
          refine DJ.skip 4 rfl (by kernel_rfl) (by kernel_rfl) (by kernel_rfl) rfl rfl ?_
          refine DJ.skip 5 rfl (by kernel_rfl) (by kernel_rfl) (by kernel_rfl) rfl rfl ?_
          refine DJ.skip 6 rfl (by kernel_rfl) (by kernel_rfl) (by kernel_rfl) rfl rfl ?_
          refine DJ.skip 7 rfl (by kernel_rfl) (by kernel_rfl) (by kernel_rfl) rfl rfl ?_
          refine DJ.skip 8 rfl (by kernel_rfl) (by kernel_rfl) (by kernel_rfl) rfl rfl ?_
          refine DJ.skip 9 rfl (by kernel_rfl) (by kernel_rfl) (by kernel_rfl) rfl rfl ?_
          refine DJ.skip 10 rfl (by kernel_rfl) (by kernel_rfl) (by kernel_rfl) rfl rfl ?_
          refine DJ.skip 11 rfl (by kernel_rfl) (by kernel_rfl) (by kernel_rfl) rfl rfl ?_
          refine DJ.skip 12 rfl (by kernel_rfl) (by kernel_rfl) (by kernel_rfl) rfl rfl ?_
          refine DJ.skip 13 rfl (by kernel_rfl) (by kernel_rfl) (by kernel_rfl) rfl rfl ?_
          refine DJ.skip 14 rfl (by kernel_rfl) (by kernel_rfl) (by kernel_rfl) rfl rfl ?_
          refine DJ.skip 15 rfl (by kernel_rfl) (by kernel_rfl) (by kernel_rfl) rfl rfl ?_
          refine DJ.yd 16 rfl (by kernel_rfl) (by kernel_rfl) (by kernel_rfl) rfl rfl (Yd.pickFB rfl rfl) ?_
          refine DJ.done (by kernel_rfl) ?_
          refine CJ.condF rfl ?_
          refine CJ.exit ?_
          have e2 : midL p x (l.drop (k + 1)) j.toNat = (ins lt x p.reverse).reverse ++ l.drop (k + 1) := by
            rw [← hj2]; unfold midL
            first
              | (have e3 : j.toNat = 0 := by omega
                 rw [e3, ins_zero]; simp; done)
              | (rw [ins_stop (by omega) hu31 (fun h => h33 (hc32.2 h))]; simp; done)
          refine CJ.norm [LR encI 3 1 (some ⟨g, 0, none⟩) c ((ins lt x p.reverse).reverse ++ l.drop (k + 1))] (by rw [e2]; rfl) ?_
          refine CJ.region ?_
          refine LJ.yd rfl (Yd.mvI rfl) ?_
          refine LJ.yd rfl (Yd.add rfl rfl (by unfold I64; omega)) ?_
          refine LJ.yd rfl (Yd.asI rfl) ?_
          refine LJ.nil ?_
          refine ⟨(k + 1, (ins lt x p.reverse).reverse), ?_, ⟨rfl, rfl, rfl, rfl, trivial⟩, ⟨rfl, trivial⟩, Ent.refl _, ?_⟩
          · refine ⟨by omega, by omega, by rw [List.length_reverse, ins_length, List.length_reverse]; omega, by rw [← hpi, dropC hx]; rfl, fun z hz => ?_⟩
            rw [List.mem_reverse, ins_mem, List.mem_reverse] at hz
            rcases hz with rfl | hz
            · exact hDx
            · exact hpd z hz
          · first | omega | (dsimp only; omega) | (simp only []; omega)
    · refine LJ.nil ?_
      refine CJ.condF rfl ?_
      refine CJ.exit ?_
      refine Fin.ofRet ?_
      have e4 : p ++ l.drop k = insAll lt [] l := by
        rw [← hpi, List.drop_of_length_le (by omega), List.append_nil]; rfl
      refine Fin.R [_] Res.none ⟨rfl, rfl⟩ ?_
      rw [← e4]; exact Ent.refl _
/-- what Go's stable sort does -/
theorem stable_ok {A : Amb} {F : FuncId} {caps : List Value} {D : Int → Prop} {lt : Int → Int → Bool} {g c : Nat} {l : List Int} [TyFn Try.prog F] (hc : Cmp A F caps D lt) (hl : ∀ x ∈ l, D x) (h1 : l.length ≤ 20) :
    Ctr Try.prog 95 #[.slice (some ⟨g, 0, none⟩) l.length c, vI l.length, .func (.func F) #[] caps.toArray] A [LR encI 3 1 (some ⟨g, 0, none⟩) c l] (fun v gs => v = .tuple #[] ∧ gs = [LR encI 3 1 (some ⟨g, 0, none⟩) c (insAll lt [] l)]) := by
  rcases Nat.lt_trichotomy l.length 20 with h20 | h20 | h20
  · rcases Nat.eq_zero_or_pos l.length with h0 | h0
    · have e0 : l = [] := List.eq_nil_of_length_eq_zero h0
      subst e0
      refine Ctr.body (args := [_, _, _]) Try.func95 rfl Try.ntmps95 Try.results95 (by simp) ?_
      refine CJ.seq ?_
      refine CJ.region ?_
      refine LJ.yd rfl (Yd.asI rfl) ?_
      refine LJ.nil ?_
      refine CJ.seq ?_
      refine CJ.region ?_
      refine LJ.yd rfl (Yd.mvI rfl) ?_
      refine LJ.yd rfl (Yd.asI rfl) ?_
      refine LJ.yd rfl (Yd.asI rfl) ?_
      refine LJ.nil ?_
      refine CJ.seq ?_
      refine CJ.block ?_
      refine CJ.loopK [0, 1, 2, 6] Unit (fun b => True) (fun b => [(8, vI 20), (7, vI 0)]) (fun b => 0) (()) ?_ ⟨rfl, rfl, trivial⟩ ?_
      · exact by trivial
      · rintro b σ hi1
        replace hi1 : True := hi1
        refine CJ.seq ?_
        refine CJ.seq ?_
        refine CJ.region ?_
        refine LJ.yd rfl (Yd.mvI rfl) ?_
        refine LJ.yd rfl (Yd.mvI rfl) ?_
        refine LJ.splitD rfl (Yd.leq rfl rfl) (fun h13 => ?_) (fun h13 => ?_)
        · exfalso; first | omega | (simp at *; done) | (simp at *; omega)
        · refine LJ.nil ?_
          refine CJ.condF rfl ?_
          refine CJ.exit ?_
          refine CJ.seq ?_
          refine CJ.region ?_
          refine LJ.yd rfl (Yd.mvS rfl) ?_
          refine LJ.yd rfl (Yd.mvI rfl) ?_
          refine LJ.yd rfl (Yd.mvI rfl) ?_
          refine LJ.yd rfl (Yd.mvF rfl) ?_
          refine LJ.callV rfl (fun k hk dk => insSort0_ok (by simp) (by omega) (by omega)) ?_
          refine LJ.nil ?_
          refine CJ.block ?_
          refine CJ.loopK [0, 1, 2] (Int × Int × Int × Int) (fun ⟨x, y, z, t⟩ => x = 20) (fun ⟨x, y, z, t⟩ => [(6, vI x), (7, vI y), (8, vI z)]) (fun ⟨x, y, z, t⟩ => 0) (20, _, _, 0) ?_ ⟨rfl, rfl, rfl, trivial⟩ ?_
          · exact by rfl
          · rintro ⟨x, y, z, t⟩ σ hi2
            replace hi2 : x = 20 := hi2
            refine CJ.seq ?_
            refine CJ.seq ?_
            refine CJ.region ?_
            refine LJ.yd rfl (Yd.mvI rfl) ?_
            refine LJ.yd rfl (Yd.mvI rfl) ?_
            refine LJ.splitD rfl (Yd.lss rfl rfl) (fun h30 => ?_) (fun h30 => ?_)
            · exfalso; first | omega | (simp at *; done) | (simp at *; omega)
            · refine LJ.nil ?_
              refine CJ.condF rfl ?_
              refine CJ.exit ?_
              refine Fin.ofRet ?_
              exact Fin.R [_] Res.none ⟨rfl, rfl⟩ (Ent.refl _)
    · refine Ctr.body (args := [_, _, _]) Try.func95 rfl Try.ntmps95 Try.results95 (by simp) ?_
      refine CJ.seq ?_
      refine CJ.region ?_
      refine LJ.yd rfl (Yd.asI rfl) ?_
      refine LJ.nil ?_
      refine CJ.seq ?_
      refine CJ.region ?_
      refine LJ.yd rfl (Yd.mvI rfl) ?_
      refine LJ.yd rfl (Yd.asI rfl) ?_
      refine LJ.yd rfl (Yd.asI rfl) ?_
      refine LJ.nil ?_
      refine CJ.seq ?_
      refine CJ.block ?_
      refine CJ.loopK [0, 1, 2, 6] Unit (fun b => True) (fun b => [(8, vI 20), (7, vI 0)]) (fun b => 0) (()) ?_ ⟨rfl, rfl, trivial⟩ ?_
      · exact by trivial
      · rintro b σ hi1
        replace hi1 : True := hi1
        refine CJ.seq ?_
        refine CJ.seq ?_
        refine CJ.region ?_
        refine LJ.yd rfl (Yd.mvI rfl) ?_
        refine LJ.yd rfl (Yd.mvI rfl) ?_
        refine LJ.splitD rfl (Yd.leq rfl rfl) (fun h13 => ?_) (fun h13 => ?_)
        · exfalso; omega
        · refine LJ.nil ?_
          refine CJ.condF rfl ?_
          refine CJ.exit ?_
          refine CJ.seq ?_
          refine CJ.region ?_
          refine LJ.yd rfl (Yd.mvS rfl) ?_
          refine LJ.yd rfl (Yd.mvI rfl) ?_
          refine LJ.yd rfl (Yd.mvI rfl) ?_
          refine LJ.yd rfl (Yd.mvF rfl) ?_
          refine LJ.call (pickF _ []) (pickF _ [0]) rfl (perm_pickF _ [] [0] rfl) (fun k hk dk => insSort_ok hc.up hl h0 (by omega) rfl) ?_
          rintro _ _ ⟨rfl, rfl⟩
          refine LJ.norm [_] rfl ?_
          refine LJ.nil ?_
          refine CJ.block ?_
          refine CJ.loopK [0, 1, 2] (Int × Int × Int × Int) (fun ⟨x, y, z, t⟩ => x = 20) (fun ⟨x, y, z, t⟩ => [(6, vI x), (7, vI y), (8, vI z)]) (fun ⟨x, y, z, t⟩ => 0) (20, _, _, 0) ?_ ⟨rfl, rfl, rfl, trivial⟩ ?_
          · exact by rfl
          · rintro ⟨x, y, z, t⟩ σ hi2
            replace hi2 : x = 20 := hi2
            refine CJ.seq ?_
            refine CJ.seq ?_
            refine CJ.region ?_
            refine LJ.yd rfl (Yd.mvI rfl) ?_
            refine LJ.yd rfl (Yd.mvI rfl) ?_
            refine LJ.splitD rfl (Yd.lss rfl rfl) (fun h30 => ?_) (fun h30 => ?_)
            · exfalso; omega
            · refine LJ.nil ?_
              refine CJ.condF rfl ?_
              refine CJ.exit ?_
              refine Fin.ofRet ?_
              exact Fin.R [_] Res.none ⟨rfl, rfl⟩ (Ent.refl _)
  · skip
    have hl20 : (l.length : Int) = 20 := by omega
    refine Ctr.body (args := [_, _, _]) Try.func95 rfl Try.ntmps95 Try.results95 (by simp) ?_
    refine CJ.seq ?_
    refine CJ.region ?_
    refine LJ.yd rfl (Yd.asI rfl) ?_
    refine LJ.nil ?_
    refine CJ.seq ?_
    refine CJ.region ?_
    refine LJ.yd rfl (Yd.mvI rfl) ?_
    refine LJ.yd rfl (Yd.asI rfl) ?_
    refine LJ.yd rfl (Yd.asI rfl) ?_
    refine LJ.nil ?_
    refine CJ.seq ?_
    refine CJ.block ?_
    refine CJ.loopF [0, 1, 2, 6] Bool (fun b => True) (fun b => [(8, vI (bif b then 40 else 20)), (7, vI (bif b then 20 else 0))]) (fun b => [LR encI 3 1 (some ⟨g, 0, none⟩) c (bif b then insAll lt [] l else l)]) (fun b => (bif b then 0 else 1)) (false) [] [] [0] rfl rfl rfl ?_ ⟨rfl, rfl, trivial⟩ ?_
    · exact by trivial
    · rintro b σ hi1
      replace hi1 : True := hi1
      refine CJ.norm [_] rfl ?_
      refine CJ.seq ?_
      refine CJ.seq ?_
      refine CJ.region ?_
      refine LJ.yd rfl (Yd.mvI rfl) ?_
      refine LJ.yd rfl (Yd.mvI rfl) ?_
      refine LJ.splitD rfl (Yd.leq rfl rfl) (fun h13 => ?_) (fun h13 => ?_)
      · refine LJ.nil ?_
        refine CJ.condT rfl ?_
        refine CJ.skip ?_
        refine CJ.block ?_
        refine CJ.seq ?_
        obtain rfl : b = false := by
          cases b
          · rfl
          · exfalso; simp only [cond_true] at h13; omega
        refine CJ.region ?_
        refine LJ.yd rfl (Yd.mvS rfl) ?_
        refine LJ.yd rfl (Yd.mvI rfl) ?_
        refine LJ.yd rfl (Yd.mvI rfl) ?_
        refine LJ.yd rfl (Yd.mvF rfl) ?_
        refine LJ.call (pickF _ []) (pickF _ [0]) rfl (perm_pickF _ [] [0] rfl) (fun k hk dk => insSort_ok hc.up hl (by omega) (by omega) (by rw [h20]; rfl)) ?_
        rintro _ _ ⟨rfl, rfl⟩
        refine LJ.norm [_] rfl ?_
        refine LJ.nil ?_
        refine CJ.seq ?_
        refine CJ.region ?_
        refine LJ.yd rfl (Yd.mvI rfl) ?_
        refine LJ.yd rfl (Yd.asI rfl) ?_
        refine LJ.nil ?_
        refine CJ.region ?_
        refine LJ.yd rfl (Yd.mvI rfl) ?_
        refine LJ.yd rfl (Yd.mvI rfl) ?_
        refine LJ.yd rfl (Yd.add rfl rfl (by simp only [cond_false]; unfold I64; omega)) ?_
        refine LJ.yd rfl (Yd.asI rfl) ?_
        refine LJ.nil ?_
        refine ⟨true, ?_, ⟨rfl, rfl, rfl, rfl, trivial⟩, ⟨rfl, rfl, trivial⟩, Ent.refl _, ?_⟩
        · first | assumption | omega | (simp_all; done) | (simp_all; omega)
        · decide
      · refine LJ.nil ?_
        refine CJ.condF rfl ?_
        refine CJ.exit ?_
        refine CJ.seq ?_
        obtain rfl : b = true := by
          cases b
          · exfalso; simp only [cond_false] at h13; omega
          · rfl
        refine CJ.region ?_
        refine LJ.yd rfl (Yd.mvS rfl) ?_
        refine LJ.yd rfl (Yd.mvI rfl) ?_
        refine LJ.yd rfl (Yd.mvI rfl) ?_
        refine LJ.yd rfl (Yd.mvF rfl) ?_
        refine LJ.callV rfl (fun k hk dk => insSort0_ok (by simp only [cond_true]; omega) (by decide) (by decide)) ?_
        refine LJ.nil ?_
        refine CJ.block ?_
        refine CJ.loopK [0, 1, 2] (Int × Int × Int × Int) (fun ⟨x, y, z, t⟩ => x = 20) (fun ⟨x, y, z, t⟩ => [(6, vI x), (7, vI y), (8, vI z)]) (fun ⟨x, y, z, t⟩ => 0) (20, _, _, 0) ?_ ⟨rfl, rfl, rfl, trivial⟩ ?_
        · exact by rfl
        · rintro ⟨x, y, z, t⟩ σ hi2
          replace hi2 : x = 20 := hi2
          refine CJ.seq ?_
          refine CJ.seq ?_
          refine CJ.region ?_
          refine LJ.yd rfl (Yd.mvI rfl) ?_
          refine LJ.yd rfl (Yd.mvI rfl) ?_
          refine LJ.splitD rfl (Yd.lss rfl rfl) (fun h30 => ?_) (fun h30 => ?_)
          · exfalso; omega
          · refine LJ.nil ?_
            refine CJ.condF rfl ?_
            refine CJ.exit ?_
            refine Fin.ofRet ?_
            exact Fin.R [_] Res.none ⟨rfl, rfl⟩ (Ent.refl _)
  · omega
end Go.Proofs.Ytkojheinklgdeaa
