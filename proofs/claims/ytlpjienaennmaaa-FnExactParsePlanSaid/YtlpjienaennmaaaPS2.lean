/-
  Numbers and heads of texts read: contracts.
-/
import Derived.Test.YtlpjienaennmaaaPS1
namespace Go.Proofs.Ytlpjienaennmaaa
open Go
set_option maxRecDepth 20000
set_option maxHeartbeats 1000000

theorem lenPos {bs : List UInt8} (h : ¬ bs = []) : (0 : Int) < bs.length := by
  have := List.length_pos_iff.2 h; omega
def nI (bs : List UInt8) : Int := if numOk bs = true then (vA 0 bs : Nat) else 0
theorem numF0 {bs : List UInt8} (h : bs = []) : numOk bs = false := by subst h; rfl
theorem numF1 {bs : List UInt8} (h : 6 < bs.length) : numOk bs = false := Bool.eq_false_iff.2 fun hn => by
  have := (numOk_iff.1 hn).2.2.1; omega
theorem numF2 {bs : List UInt8} {u : UInt8} (hu : bs[0]? = some u) (h : (u.toNat : Int) = 48) (h1 : 1 < bs.length) : numOk bs = false := Bool.eq_false_iff.2 fun hn => by
  refine (numOk_iff.1 hn).2.2.2 ⟨h1, ?_⟩
  rw [hu]; exact congrArg some ((u8_eq (k := 48) (by omega)).1 h)
theorem numF3 {bs : List UInt8} {u : UInt8} {k : Nat} (hu : bs[k]? = some u) (h : ¬ (48 ≤ (u.toNat : Int) ∧ (u.toNat : Int) ≤ 57)) : numOk bs = false := Bool.eq_false_iff.2 fun hn => by
  have h1 := List.all_eq_true.1 (numOk_iff.1 hn).1 u (List.mem_of_getElem? hu)
  have h2 := isD_iff.1 h1
  omega
theorem numC {bs : List UInt8} (h : numOk bs = false) : Value.tuple #[vI 0, .bool false] = .tuple #[vI (nI bs), .bool (numOk bs)] := by
  rw [nI, h]; rfl
theorem numCT {bs : List UInt8} {y : Int} (h : numOk bs = true) (hy : y = (vA 0 bs : Nat)) : Value.tuple #[vI y, .bool true] = .tuple #[vI (nI bs), .bool (numOk bs)] := by
  rw [nI, if_pos h, h, hy]
theorem all_take {bs : List UInt8} {k : Nat} {u : UInt8} (h : (bs.take k).all isD = true) (hu : bs[k]? = some u) (h1 : 48 ≤ (u.toNat : Int)) (h2 : (u.toNat : Int) ≤ 57) : (bs.take (k + 1)).all isD = true := by
  rw [takeC hu, List.all_append, h]
  have : isD u = true := isD_iff.2 ⟨by omega, by omega⟩
  simp [this]
theorem vA_take {bs : List UInt8} {k : Nat} {u : UInt8} (hu : bs[k]? = some u) : vA 0 (bs.take (k + 1)) = 10 * vA 0 (bs.take k) + (u.toNat - 48) := by
  rw [takeC hu, vA_snoc, dg]
theorem vA_b {bs : List UInt8} {k : Nat} (h : (bs.take k).all isD = true) (hk : k ≤ 6) : vA 0 (bs.take k) ≤ 999999 := by
  have h1 := vA_hi (n := 0) h
  have h2 : 10 ^ (bs.take k).length ≤ 10 ^ 6 := Nat.pow_le_pow_right (by omega) (by rw [List.length_take]; omega)
  omega
theorem readNumberI_ok {A : Amb} {bs : List UInt8} : Ctr Try.prog 115 #[vT bs] A [] (Val (.tuple #[vI (nI bs), .bool (numOk bs)])) := by
  refine Ctr.body (args := [_]) Try.func115 rfl Try.ntmps115 Try.results115 (by simp) ?_
  refine CJ.seq ?_
  refine CJ.region ?_
  refine LJ.yd rfl (Yd.asI rfl) ?_
  refine LJ.yd rfl (Yd.asB rfl) ?_
  refine LJ.nil ?_
  refine CJ.seq ?_
  refine CJ.seq ?_
  refine CJ.region ?_
  refine LJ.yd rfl (Yd.mvT rfl) ?_
  refine LJ.splitD rfl (Yd.eqlT rfl rfl) (fun h7 => ?_) (fun h7 => ?_)
  · refine LJ.yd rfl (Yd.mvB rfl) ?_
    refine LJ.gF rfl rfl ?_
    refine LJ.gF rfl rfl ?_
    refine LJ.gF rfl rfl ?_
    refine LJ.yd rfl (Yd.pickTB rfl rfl) ?_
    refine LJ.yd rfl (Yd.mvB rfl) ?_
    refine LJ.gF rfl rfl ?_
    refine LJ.gF rfl rfl ?_
    refine LJ.gF rfl rfl ?_
    refine LJ.gF rfl rfl ?_
    refine LJ.gF rfl rfl ?_
    refine LJ.gF rfl rfl ?_
    refine LJ.gF rfl rfl ?_
    refine LJ.gF rfl rfl ?_
    refine LJ.yd rfl (Yd.pickTB rfl rfl) ?_
    refine LJ.nil ?_
    refine CJ.condT rfl ?_
    refine CJ.seq ?_
    refine CJ.region ?_
    refine LJ.yd rfl (Yd.asI rfl) ?_
    refine LJ.yd rfl (Yd.asB rfl) ?_
    refine LJ.nil ?_
    refine CJ.ret ?_
    refine Fin.V (Res.two (ResV.tmp (v := .int _ _) rfl) (ResV.tmp (v := .bool false) rfl)) ?_
    first
      | exact numC (numF0 (by assumption))
      | exact numC (numF1 (by omega))
      | exact numC (numF2 (by assumption) (by assumption) (by omega))
      | exact numC (numF3 hu30 (by omega))
      | exact numC (numF3 hu35 (by omega))
      | (obtain rfl : k = bs.length := by omega
         rw [List.take_of_length_le (Nat.le_refl _)] at hy hyD
         refine numCT (numOk_iff.2 ⟨hyD, by assumption, by omega, fun hc => ?_⟩) hy
         first | (exact absurd hc.1 (by omega)) | (refine absurd ?_ h16; have e := hc.2; rw [hu15] at e; rw [Option.some.inj e]; rfl))
  · refine LJ.yd rfl (Yd.mvB rfl) ?_
    refine LJ.gT rfl ?_
    refine LJ.yd rfl (Yd.mvT rfl) ?_
    refine LJ.gT rfl ?_
    refine LJ.yd rfl (Yd.lenT rfl) ?_
    refine LJ.gT rfl ?_
    refine LJ.splitD rfl (Yd.gtr rfl rfl) (fun h11 => ?_) (fun h11 => ?_)
    · refine LJ.yd rfl (Yd.pickFB rfl rfl) ?_
      refine LJ.yd rfl (Yd.mvB rfl) ?_
      refine LJ.gF rfl rfl ?_
      refine LJ.gF rfl rfl ?_
      refine LJ.gF rfl rfl ?_
      refine LJ.gF rfl rfl ?_
      refine LJ.gF rfl rfl ?_
      refine LJ.gF rfl rfl ?_
      refine LJ.gF rfl rfl ?_
      refine LJ.gF rfl rfl ?_
      refine LJ.yd rfl (Yd.pickTB rfl rfl) ?_
      refine LJ.nil ?_
      refine CJ.condT rfl ?_
      refine CJ.seq ?_
      refine CJ.region ?_
      refine LJ.yd rfl (Yd.asI rfl) ?_
      refine LJ.yd rfl (Yd.asB rfl) ?_
      refine LJ.nil ?_
      refine CJ.ret ?_
      refine Fin.V (Res.two (ResV.tmp (v := .int _ _) rfl) (ResV.tmp (v := .bool false) rfl)) ?_
      first
        | exact numC (numF0 (by assumption))
        | exact numC (numF1 (by omega))
        | exact numC (numF2 (by assumption) (by assumption) (by omega))
        | exact numC (numF3 hu30 (by omega))
        | exact numC (numF3 hu35 (by omega))
        | (obtain rfl : k = bs.length := by omega
           rw [List.take_of_length_le (Nat.le_refl _)] at hy hyD
           refine numCT (numOk_iff.2 ⟨hyD, by assumption, by omega, fun hc => ?_⟩) hy
           first | (exact absurd hc.1 (by omega)) | (refine absurd ?_ h16; have e := hc.2; rw [hu15] at e; rw [Option.some.inj e]; rfl))
    · refine LJ.yd rfl (Yd.pickFB rfl rfl) ?_
      refine LJ.yd rfl (Yd.mvB rfl) ?_
      refine LJ.gT rfl ?_
      refine LJ.yd rfl (Yd.mvT rfl) ?_
      refine LJ.gT rfl ?_
      refine LJ.ixT rfl rfl rfl (by omega) (lenPos h7) (fun u15 hu15 => ?_)
      try simp only [Int.toNat_natCast] at hu15
      obtain ⟨ul15, uh15⟩ := u8_b u15
      rw [show Int.toNat 0 = 0 from rfl] at hu15
      refine LJ.gT rfl ?_
      refine LJ.splitD rfl (Yd.eql rfl rfl) (fun h16 => ?_) (fun h16 => ?_)
      · refine LJ.gT rfl ?_
        refine LJ.yd rfl (Yd.mvB rfl) ?_
        refine LJ.gT rfl ?_
        refine LJ.yd rfl (Yd.mvT rfl) ?_
        refine LJ.gT rfl ?_
        refine LJ.yd rfl (Yd.lenT rfl) ?_
        refine LJ.gT rfl ?_
        refine LJ.splitD rfl (Yd.gtr rfl rfl) (fun h20 => ?_) (fun h20 => ?_)
        · refine LJ.gT rfl ?_
          refine LJ.yd rfl (Yd.pickTB rfl rfl) ?_
          refine LJ.yd rfl (Yd.pickFB rfl rfl) ?_
          refine LJ.nil ?_
          refine CJ.condT rfl ?_
          refine CJ.seq ?_
          refine CJ.region ?_
          refine LJ.yd rfl (Yd.asI rfl) ?_
          refine LJ.yd rfl (Yd.asB rfl) ?_
          refine LJ.nil ?_
          refine CJ.ret ?_
          refine Fin.V (Res.two (ResV.tmp (v := .int _ _) rfl) (ResV.tmp (v := .bool false) rfl)) ?_
          first
            | exact numC (numF0 (by assumption))
            | exact numC (numF1 (by omega))
            | exact numC (numF2 (by assumption) (by assumption) (by omega))
            | exact numC (numF3 hu30 (by omega))
            | exact numC (numF3 hu35 (by omega))
            | (obtain rfl : k = bs.length := by omega
               rw [List.take_of_length_le (Nat.le_refl _)] at hy hyD
               refine numCT (numOk_iff.2 ⟨hyD, by assumption, by omega, fun hc => ?_⟩) hy
               first | (exact absurd hc.1 (by omega)) | (refine absurd ?_ h16; have e := hc.2; rw [hu15] at e; rw [Option.some.inj e]; rfl))
        · refine LJ.gT rfl ?_
          refine LJ.yd rfl (Yd.pickTB rfl rfl) ?_
          refine LJ.yd rfl (Yd.pickFB rfl rfl) ?_
          refine LJ.nil ?_
          refine CJ.condF rfl ?_
          refine CJ.skip ?_
          refine CJ.seq ?_
          refine CJ.region ?_
          refine LJ.yd rfl (Yd.asI rfl) ?_
          refine LJ.nil ?_
          refine CJ.seq ?_
          refine CJ.seq ?_
          refine CJ.region ?_
          refine LJ.yd rfl (Yd.mvT rfl) ?_
          refine LJ.yd rfl (Yd.lenT rfl) ?_
          refine LJ.yd rfl (Yd.mvI rfl) ?_
          refine LJ.nil ?_
          refine CJ.block ?_
          refine CJ.loopK [0, 24] (Nat × Int) (fun ⟨k, y⟩ => k ≤ bs.length ∧ y = (vA 0 (bs.take k) : Nat) ∧ (bs.take k).all isD = true) (fun ⟨k, y⟩ => [(25, vI k), (4, vI y)]) (fun ⟨k, y⟩ => bs.length - k) (0, 0) ?_ ⟨rfl, rfl, trivial⟩ ?_
          · exact ⟨by omega, rfl, rfl⟩
          · rintro ⟨k, y⟩ σ ⟨hk1, hy, hyD⟩
            have hyb := vA_b hyD (by omega)
            refine CJ.seq ?_
            refine CJ.region ?_
            refine LJ.splitD rfl (Yd.lss rfl rfl) (fun h26 => ?_) (fun h26 => ?_)
            · refine LJ.nil ?_
              refine CJ.seq ?_
              refine CJ.condT rfl ?_
              refine CJ.skip ?_
              refine CJ.seq ?_
              refine CJ.block ?_
              refine CJ.seq ?_
              refine CJ.region ?_
              refine LJ.yd rfl (Yd.mvI rfl) ?_
              refine LJ.yd rfl (Yd.asI rfl) ?_
              refine LJ.nil ?_
              refine CJ.seq ?_
              refine CJ.seq ?_
              refine CJ.region ?_
              refine LJ.yd rfl (Yd.mvT rfl) ?_
              refine LJ.yd rfl (Yd.mvI rfl) ?_
              refine LJ.ixT rfl rfl rfl (by omega) (by omega) (fun u30 hu30 => ?_)
              try simp only [Int.toNat_natCast] at hu30
              obtain ⟨ul30, uh30⟩ := u8_b u30
              refine LJ.splitD rfl (Yd.lss rfl rfl) (fun h31 => ?_) (fun h31 => ?_)
              · refine LJ.yd rfl (Yd.mvB rfl) ?_
                refine LJ.gF rfl rfl ?_
                refine LJ.gF rfl rfl ?_
                refine LJ.gF rfl rfl ?_
                refine LJ.gF rfl rfl ?_
                refine LJ.yd rfl (Yd.pickTB rfl rfl) ?_
                refine LJ.nil ?_
                refine CJ.condT rfl ?_
                refine CJ.seq ?_
                refine CJ.region ?_
                refine LJ.yd rfl (Yd.asI rfl) ?_
                refine LJ.yd rfl (Yd.asB rfl) ?_
                refine LJ.nil ?_
                refine CJ.ret ?_
                refine Fin.V (Res.two (ResV.tmp (v := .int _ _) rfl) (ResV.tmp (v := .bool false) rfl)) ?_
                first
                  | exact numC (numF0 (by assumption))
                  | exact numC (numF1 (by omega))
                  | exact numC (numF2 (by assumption) (by assumption) (by omega))
                  | exact numC (numF3 hu30 (by omega))
                  | exact numC (numF3 hu35 (by omega))
                  | (obtain rfl : k = bs.length := by omega
                     rw [List.take_of_length_le (Nat.le_refl _)] at hy hyD
                     refine numCT (numOk_iff.2 ⟨hyD, by assumption, by omega, fun hc => ?_⟩) hy
                     first | (exact absurd hc.1 (by omega)) | (refine absurd ?_ h16; have e := hc.2; rw [hu15] at e; rw [Option.some.inj e]; rfl))
              · refine LJ.yd rfl (Yd.mvB rfl) ?_
                refine LJ.gT rfl ?_
                refine LJ.yd rfl (Yd.mvT rfl) ?_
                refine LJ.gT rfl ?_
                refine LJ.yd rfl (Yd.mvI rfl) ?_
                refine LJ.gT rfl ?_
                refine LJ.ixT rfl rfl rfl (by omega) (by omega) (fun u35 hu35 => ?_)
                try simp only [Int.toNat_natCast] at hu35
                obtain ⟨ul35, uh35⟩ := u8_b u35
                refine LJ.gT rfl ?_
                refine LJ.splitD rfl (Yd.gtr rfl rfl) (fun h36 => ?_) (fun h36 => ?_)
                · refine LJ.yd rfl (Yd.pickFB rfl rfl) ?_
                  refine LJ.nil ?_
                  refine CJ.condT rfl ?_
                  refine CJ.seq ?_
                  refine CJ.region ?_
                  refine LJ.yd rfl (Yd.asI rfl) ?_
                  refine LJ.yd rfl (Yd.asB rfl) ?_
                  refine LJ.nil ?_
                  refine CJ.ret ?_
                  refine Fin.V (Res.two (ResV.tmp (v := .int _ _) rfl) (ResV.tmp (v := .bool false) rfl)) ?_
                  first
                    | exact numC (numF0 (by assumption))
                    | exact numC (numF1 (by omega))
                    | exact numC (numF2 (by assumption) (by assumption) (by omega))
                    | exact numC (numF3 hu30 (by omega))
                    | exact numC (numF3 hu35 (by omega))
                    | (obtain rfl : k = bs.length := by omega
                       rw [List.take_of_length_le (Nat.le_refl _)] at hy hyD
                       refine numCT (numOk_iff.2 ⟨hyD, by assumption, by omega, fun hc => ?_⟩) hy
                       first | (exact absurd hc.1 (by omega)) | (refine absurd ?_ h16; have e := hc.2; rw [hu15] at e; rw [Option.some.inj e]; rfl))
                · refine LJ.yd rfl (Yd.pickFB rfl rfl) ?_
                  refine LJ.nil ?_
                  refine CJ.condF rfl ?_
                  refine CJ.skip ?_
                  have hD30 : 48 ≤ (u30.toNat : Int) ∧ (u30.toNat : Int) ≤ 57 := ⟨by omega, by first | omega | (rw [hu30] at hu35; obtain rfl := Option.some.inj hu35; omega)⟩
                  refine CJ.region ?_
                  refine LJ.yd rfl (Yd.mvI rfl) ?_
                  refine LJ.yd rfl (Yd.mul rfl rfl (by unfold I64; omega)) ?_
                  refine LJ.yd rfl (Yd.mvT rfl) ?_
                  refine LJ.yd rfl (Yd.mvI rfl) ?_
                  refine LJ.ixT rfl rfl rfl (by omega) (by omega) (fun u42 hu42 => ?_)
                  try simp only [Int.toNat_natCast] at hu42
                  obtain ⟨ul42, uh42⟩ := u8_b u42
                  have hu42b : u30 = u42 := by rw [hu30] at hu42; exact Option.some.inj hu42
                  subst hu42b
                  refine LJ.yd rfl (Yd.sub8 rfl rfl (by omega) (by omega)) ?_
                  refine LJ.yd rfl (Yd.convert8 rfl (by omega) (by omega)) ?_
                  refine LJ.yd rfl (Yd.add rfl rfl (by unfold I64; omega)) ?_
                  refine LJ.yd rfl (Yd.asI rfl) ?_
                  refine LJ.nil ?_
                  refine CJ.region ?_
                  refine LJ.yd rfl (Yd.add rfl rfl (by unfold I64; omega)) ?_
                  refine LJ.yd rfl (Yd.mvI rfl) ?_
                  refine LJ.nil ?_
                  refine ⟨(k + 1, _), ?_, ⟨rfl, rfl, trivial⟩, ⟨rfl, rfl, trivial⟩, Ent.refl _, ?_⟩
                  · refine ⟨by omega, ?_⟩
                    have e := vA_take hu30
                    exact ⟨by rw [e, hy]; omega, all_take hyD hu30 (by omega) (by omega)⟩
                  · first | omega | (dsimp only; omega) | (simp only []; omega)
            · refine LJ.nil ?_
              refine CJ.seq ?_
              refine CJ.condF rfl ?_
              refine CJ.exit ?_
              refine CJ.seq ?_
              refine CJ.region ?_
              refine LJ.yd rfl (Yd.mvI rfl) ?_
              refine LJ.yd rfl (Yd.asI rfl) ?_
              refine LJ.yd rfl (Yd.asB rfl) ?_
              refine LJ.nil ?_
              refine CJ.ret ?_
              refine Fin.V (Res.two (ResV.tmp (v := .int _ _) rfl) (ResV.tmp (v := .bool true) rfl)) ?_
              first
                | exact numC (numF0 (by assumption))
                | exact numC (numF1 (by omega))
                | exact numC (numF2 (by assumption) (by assumption) (by omega))
                | exact numC (numF3 hu30 (by omega))
                | exact numC (numF3 hu35 (by omega))
                | (obtain rfl : k = bs.length := by omega
                   rw [List.take_of_length_le (Nat.le_refl _)] at hy hyD
                   refine numCT (numOk_iff.2 ⟨hyD, by assumption, by omega, fun hc => ?_⟩) hy
                   first | (exact absurd hc.1 (by omega)) | (refine absurd ?_ h16; have e := hc.2; rw [hu15] at e; rw [Option.some.inj e]; rfl))
      · refine LJ.gT rfl ?_
        refine LJ.yd rfl (Yd.mvB rfl) ?_
        refine LJ.gF rfl rfl ?_
        refine LJ.gF rfl rfl ?_
        refine LJ.gF rfl rfl ?_
        refine LJ.gT rfl ?_
        refine LJ.yd rfl (Yd.pickFB rfl rfl) ?_
        refine LJ.yd rfl (Yd.pickFB rfl rfl) ?_
        refine LJ.nil ?_
        refine CJ.condF rfl ?_
        refine CJ.skip ?_
        refine CJ.seq ?_
        refine CJ.region ?_
        refine LJ.yd rfl (Yd.asI rfl) ?_
        refine LJ.nil ?_
        refine CJ.seq ?_
        refine CJ.seq ?_
        refine CJ.region ?_
        refine LJ.yd rfl (Yd.mvT rfl) ?_
        refine LJ.yd rfl (Yd.lenT rfl) ?_
        refine LJ.yd rfl (Yd.mvI rfl) ?_
        refine LJ.nil ?_
        refine CJ.block ?_
        refine CJ.loopK [0, 24] (Nat × Int) (fun ⟨k, y⟩ => k ≤ bs.length ∧ y = (vA 0 (bs.take k) : Nat) ∧ (bs.take k).all isD = true) (fun ⟨k, y⟩ => [(25, vI k), (4, vI y)]) (fun ⟨k, y⟩ => bs.length - k) (0, 0) ?_ ⟨rfl, rfl, trivial⟩ ?_
        · exact ⟨by omega, rfl, rfl⟩
        · rintro ⟨k, y⟩ σ ⟨hk1, hy, hyD⟩
          have hyb := vA_b hyD (by omega)
          refine CJ.seq ?_
          refine CJ.region ?_
          refine LJ.splitD rfl (Yd.lss rfl rfl) (fun h26 => ?_) (fun h26 => ?_)
          · refine LJ.nil ?_
            refine CJ.seq ?_
            refine CJ.condT rfl ?_
            refine CJ.skip ?_
            refine CJ.seq ?_
            refine CJ.block ?_
            refine CJ.seq ?_
            refine CJ.region ?_
            refine LJ.yd rfl (Yd.mvI rfl) ?_
            refine LJ.yd rfl (Yd.asI rfl) ?_
            refine LJ.nil ?_
            refine CJ.seq ?_
            refine CJ.seq ?_
            refine CJ.region ?_
            refine LJ.yd rfl (Yd.mvT rfl) ?_
            refine LJ.yd rfl (Yd.mvI rfl) ?_
            refine LJ.ixT rfl rfl rfl (by omega) (by omega) (fun u30 hu30 => ?_)
            try simp only [Int.toNat_natCast] at hu30
            obtain ⟨ul30, uh30⟩ := u8_b u30
            refine LJ.splitD rfl (Yd.lss rfl rfl) (fun h31 => ?_) (fun h31 => ?_)
            · refine LJ.yd rfl (Yd.mvB rfl) ?_
              refine LJ.gF rfl rfl ?_
              refine LJ.gF rfl rfl ?_
              refine LJ.gF rfl rfl ?_
              refine LJ.gF rfl rfl ?_
              refine LJ.yd rfl (Yd.pickTB rfl rfl) ?_
              refine LJ.nil ?_
              refine CJ.condT rfl ?_
              refine CJ.seq ?_
              refine CJ.region ?_
              refine LJ.yd rfl (Yd.asI rfl) ?_
              refine LJ.yd rfl (Yd.asB rfl) ?_
              refine LJ.nil ?_
              refine CJ.ret ?_
              refine Fin.V (Res.two (ResV.tmp (v := .int _ _) rfl) (ResV.tmp (v := .bool false) rfl)) ?_
              first
                | exact numC (numF0 (by assumption))
                | exact numC (numF1 (by omega))
                | exact numC (numF2 (by assumption) (by assumption) (by omega))
                | exact numC (numF3 hu30 (by omega))
                | exact numC (numF3 hu35 (by omega))
                | (obtain rfl : k = bs.length := by omega
                   rw [List.take_of_length_le (Nat.le_refl _)] at hy hyD
                   refine numCT (numOk_iff.2 ⟨hyD, by assumption, by omega, fun hc => ?_⟩) hy
                   first | (exact absurd hc.1 (by omega)) | (refine absurd ?_ h16; have e := hc.2; rw [hu15] at e; rw [Option.some.inj e]; rfl))
            · refine LJ.yd rfl (Yd.mvB rfl) ?_
              refine LJ.gT rfl ?_
              refine LJ.yd rfl (Yd.mvT rfl) ?_
              refine LJ.gT rfl ?_
              refine LJ.yd rfl (Yd.mvI rfl) ?_
              refine LJ.gT rfl ?_
              refine LJ.ixT rfl rfl rfl (by omega) (by omega) (fun u35 hu35 => ?_)
              try simp only [Int.toNat_natCast] at hu35
              obtain ⟨ul35, uh35⟩ := u8_b u35
              refine LJ.gT rfl ?_
              refine LJ.splitD rfl (Yd.gtr rfl rfl) (fun h36 => ?_) (fun h36 => ?_)
              · refine LJ.yd rfl (Yd.pickFB rfl rfl) ?_
                refine LJ.nil ?_
                refine CJ.condT rfl ?_
                refine CJ.seq ?_
                refine CJ.region ?_
                refine LJ.yd rfl (Yd.asI rfl) ?_
                refine LJ.yd rfl (Yd.asB rfl) ?_
                refine LJ.nil ?_
                refine CJ.ret ?_
                refine Fin.V (Res.two (ResV.tmp (v := .int _ _) rfl) (ResV.tmp (v := .bool false) rfl)) ?_
                first
                  | exact numC (numF0 (by assumption))
                  | exact numC (numF1 (by omega))
                  | exact numC (numF2 (by assumption) (by assumption) (by omega))
                  | exact numC (numF3 hu30 (by omega))
                  | exact numC (numF3 hu35 (by omega))
                  | (obtain rfl : k = bs.length := by omega
                     rw [List.take_of_length_le (Nat.le_refl _)] at hy hyD
                     refine numCT (numOk_iff.2 ⟨hyD, by assumption, by omega, fun hc => ?_⟩) hy
                     first | (exact absurd hc.1 (by omega)) | (refine absurd ?_ h16; have e := hc.2; rw [hu15] at e; rw [Option.some.inj e]; rfl))
              · refine LJ.yd rfl (Yd.pickFB rfl rfl) ?_
                refine LJ.nil ?_
                refine CJ.condF rfl ?_
                refine CJ.skip ?_
                have hD30 : 48 ≤ (u30.toNat : Int) ∧ (u30.toNat : Int) ≤ 57 := ⟨by omega, by first | omega | (rw [hu30] at hu35; obtain rfl := Option.some.inj hu35; omega)⟩
                refine CJ.region ?_
                refine LJ.yd rfl (Yd.mvI rfl) ?_
                refine LJ.yd rfl (Yd.mul rfl rfl (by unfold I64; omega)) ?_
                refine LJ.yd rfl (Yd.mvT rfl) ?_
                refine LJ.yd rfl (Yd.mvI rfl) ?_
                refine LJ.ixT rfl rfl rfl (by omega) (by omega) (fun u42 hu42 => ?_)
                try simp only [Int.toNat_natCast] at hu42
                obtain ⟨ul42, uh42⟩ := u8_b u42
                have hu42b : u30 = u42 := by rw [hu30] at hu42; exact Option.some.inj hu42
                subst hu42b
                refine LJ.yd rfl (Yd.sub8 rfl rfl (by omega) (by omega)) ?_
                refine LJ.yd rfl (Yd.convert8 rfl (by omega) (by omega)) ?_
                refine LJ.yd rfl (Yd.add rfl rfl (by unfold I64; omega)) ?_
                refine LJ.yd rfl (Yd.asI rfl) ?_
                refine LJ.nil ?_
                refine CJ.region ?_
                refine LJ.yd rfl (Yd.add rfl rfl (by unfold I64; omega)) ?_
                refine LJ.yd rfl (Yd.mvI rfl) ?_
                refine LJ.nil ?_
                refine ⟨(k + 1, _), ?_, ⟨rfl, rfl, trivial⟩, ⟨rfl, rfl, trivial⟩, Ent.refl _, ?_⟩
                · refine ⟨by omega, ?_⟩
                  have e := vA_take hu30
                  exact ⟨by rw [e, hy]; omega, all_take hyD hu30 (by omega) (by omega)⟩
                · first | omega | (dsimp only; omega) | (simp only []; omega)
          · refine LJ.nil ?_
            refine CJ.seq ?_
            refine CJ.condF rfl ?_
            refine CJ.exit ?_
            refine CJ.seq ?_
            refine CJ.region ?_
            refine LJ.yd rfl (Yd.mvI rfl) ?_
            refine LJ.yd rfl (Yd.asI rfl) ?_
            refine LJ.yd rfl (Yd.asB rfl) ?_
            refine LJ.nil ?_
            refine CJ.ret ?_
            refine Fin.V (Res.two (ResV.tmp (v := .int _ _) rfl) (ResV.tmp (v := .bool true) rfl)) ?_
            first
              | exact numC (numF0 (by assumption))
              | exact numC (numF1 (by omega))
              | exact numC (numF2 (by assumption) (by assumption) (by omega))
              | exact numC (numF3 hu30 (by omega))
              | exact numC (numF3 hu35 (by omega))
              | (obtain rfl : k = bs.length := by omega
                 rw [List.take_of_length_le (Nat.le_refl _)] at hy hyD
                 refine numCT (numOk_iff.2 ⟨hyD, by assumption, by omega, fun hc => ?_⟩) hy
                 first | (exact absurd hc.1 (by omega)) | (refine absurd ?_ h16; have e := hc.2; rw [hu15] at e; rw [Option.some.inj e]; rfl))
theorem tw_of {bs : List UInt8} {k : Nat} (h : (bs.take k).all isD = true) (h2 : bs.length ≤ k ∨ ∃ u, bs[k]? = some u ∧ isD u = false) : bs.takeWhile isD = bs.take k ∧ bs.dropWhile isD = bs.drop k := by
  induction k generalizing bs with
  | zero =>
    cases bs with
    | nil => exact ⟨rfl, rfl⟩
    | cons d r =>
      rcases h2 with h2 | ⟨u, hu, hd⟩
      · simp at h2
      · simp at hu; subst hu; simp [hd]
  | succ k ih =>
    cases bs with
    | nil => exact ⟨rfl, rfl⟩
    | cons d r =>
      simp only [List.take_succ_cons, List.all_cons, Bool.and_eq_true] at h
      obtain ⟨i1, i2⟩ := ih (bs := r) h.2 (by simpa using h2)
      simp [h.1, i1, i2]
theorem tw_len (bs : List UInt8) : (bs.dropWhile isD).length ≤ bs.length := (List.dropWhile_sublist isD).length_le
theorem isD_F {u : UInt8} (h : ¬ (48 ≤ (u.toNat : Int) ∧ (u.toNat : Int) ≤ 57)) : isD u = false := Bool.eq_false_iff.2 fun hd => by have := isD_iff.1 hd; omega
theorem takeNumber_ok {A : Amb} {bs : List UInt8} (hb : bs.length ≤ 100000) : Ctr Try.prog 100 #[vT bs] A [] (Val (.tuple #[vI (nI (bs.takeWhile isD)), vT (bs.dropWhile isD), .bool (numOk (bs.takeWhile isD))])) := by
  refine Ctr.body (args := [_]) Try.func100 rfl Try.ntmps100 Try.results100 (by simp) ?_
  refine CJ.seq ?_
  refine CJ.region ?_
  refine LJ.yd rfl (Yd.asI rfl) ?_
  refine LJ.yd rfl (Yd.asT rfl) ?_
  refine LJ.yd rfl (Yd.asB rfl) ?_
  refine LJ.nil ?_
  refine CJ.seq ?_
  refine CJ.region ?_
  refine LJ.yd rfl (Yd.asI rfl) ?_
  refine LJ.nil ?_
  refine CJ.seq ?_
  refine CJ.block ?_
  refine CJ.loopK [0, 2, 3, 4] Nat (fun k => k ≤ bs.length ∧ (bs.take k).all isD = true) (fun k => [(5, vI k)]) (fun k => bs.length - k) (0) ?_ ⟨rfl, trivial⟩ ?_
  · exact ⟨by omega, rfl⟩
  · rintro k σ ⟨hk1, hD⟩
    refine CJ.seq ?_
    refine CJ.seq ?_
    refine CJ.region ?_
    refine LJ.yd rfl (Yd.mvI rfl) ?_
    refine LJ.yd rfl (Yd.mvT rfl) ?_
    refine LJ.yd rfl (Yd.lenT rfl) ?_
    refine LJ.splitD rfl (Yd.lss rfl rfl) (fun h11 => ?_) (fun h11 => ?_)
    · refine LJ.yd rfl (Yd.mvB rfl) ?_
      refine LJ.gT rfl ?_
      refine LJ.yd rfl (Yd.mvT rfl) ?_
      refine LJ.gT rfl ?_
      refine LJ.yd rfl (Yd.mvI rfl) ?_
      refine LJ.gT rfl ?_
      refine LJ.ixT rfl rfl rfl (by omega) (by omega) (fun u15 hu15 => ?_)
      try simp only [Int.toNat_natCast] at hu15
      obtain ⟨ul15, uh15⟩ := u8_b u15
      refine LJ.gT rfl ?_
      refine LJ.splitD rfl (Yd.geq rfl rfl) (fun h16 => ?_) (fun h16 => ?_)
      · refine LJ.yd rfl (Yd.pickTB rfl rfl) ?_
        refine LJ.yd rfl (Yd.mvB rfl) ?_
        refine LJ.gT rfl ?_
        refine LJ.yd rfl (Yd.mvT rfl) ?_
        refine LJ.gT rfl ?_
        refine LJ.yd rfl (Yd.mvI rfl) ?_
        refine LJ.gT rfl ?_
        refine LJ.ixT rfl rfl rfl (by omega) (by omega) (fun u21 hu21 => ?_)
        try simp only [Int.toNat_natCast] at hu21
        obtain ⟨ul21, uh21⟩ := u8_b u21
        refine LJ.gT rfl ?_
        refine LJ.splitD rfl (Yd.leq rfl rfl) (fun h22 => ?_) (fun h22 => ?_)
        · refine LJ.yd rfl (Yd.pickTB rfl rfl) ?_
          refine LJ.nil ?_
          refine CJ.condT rfl ?_
          refine CJ.skip ?_
          refine CJ.block ?_
          refine CJ.region ?_
          refine LJ.yd rfl (Yd.mvI rfl) ?_
          refine LJ.yd rfl (Yd.add rfl rfl (by unfold I64; omega)) ?_
          refine LJ.yd rfl (Yd.asI rfl) ?_
          refine LJ.nil ?_
          refine ⟨(k + 1), ?_, ⟨rfl, rfl, rfl, rfl, trivial⟩, ⟨rfl, trivial⟩, Ent.refl _, ?_⟩
          · exact ⟨by omega, all_take hD hu15 (by omega) (by first | omega | (rw [hu15] at hu21; obtain rfl := Option.some.inj hu21; omega))⟩
          · omega
        · refine LJ.yd rfl (Yd.pickTB rfl rfl) ?_
          refine LJ.nil ?_
          refine CJ.condF rfl ?_
          refine CJ.exit ?_
          refine CJ.seq ?_
          have htw : bs.takeWhile isD = bs.take k ∧ bs.dropWhile isD = bs.drop k := tw_of hD (by
            first
              | exact .inl (by omega)
              | exact .inr ⟨_, hu15, isD_F (by omega)⟩
              | exact .inr ⟨_, hu21, isD_F (by omega)⟩)
          rw [htw.1, htw.2]
          refine CJ.region ?_
          refine LJ.yd rfl (Yd.mvT rfl) ?_
          refine LJ.yd rfl (Yd.mvI rfl) ?_
          refine LJ.yd rfl (Yd.slT_h rfl rfl (by omega) (by omega)) ?_
          refine LJ.callV rfl (fun k hk dk => readNumberI_ok) ?_
          refine LJ.yd rfl (Yd.mvU rfl) ?_
          refine LJ.yd rfl (Yd.extract rfl rfl) ?_
          refine LJ.yd rfl (Yd.extract rfl rfl) ?_
          refine LJ.yd rfl (Yd.asI rfl) ?_
          refine LJ.yd rfl (Yd.asB rfl) ?_
          refine LJ.nil ?_
          refine CJ.seq ?_
          refine CJ.regionD [] [] (by kernel_rfl) rfl ?_
          refine DJ.norm [] [] rfl rfl ?_
          refine DJ.yd 0 rfl (by kernel_rfl) (by kernel_rfl) (by kernel_rfl) rfl rfl (Yd.mvI rfl) ?_
          refine DJ.yd 1 rfl (by kernel_rfl) (by kernel_rfl) (by kernel_rfl) rfl rfl (Yd.mvT rfl) ?_
          refine DJ.yd 2 rfl (by kernel_rfl) (by kernel_rfl) (by kernel_rfl) rfl rfl (Yd.mvI rfl) ?_
          refine DJ.yd 3 rfl (by kernel_rfl) (by kernel_rfl) (by kernel_rfl) rfl rfl (Yd.slT_l rfl rfl (by omega) (by omega)) ?_
          refine DJ.yd 4 rfl (by kernel_rfl) (by kernel_rfl) (by kernel_rfl) rfl rfl (Yd.mvB rfl) ?_
          refine DJ.yd 5 rfl (by kernel_rfl) (by kernel_rfl) (by kernel_rfl) rfl rfl (Yd.asI rfl) ?_
          refine DJ.yd 6 rfl (by kernel_rfl) (by kernel_rfl) (by kernel_rfl) rfl rfl (Yd.asT rfl) ?_
          refine DJ.yd 7 rfl (by kernel_rfl) (by kernel_rfl) (by kernel_rfl) rfl rfl (Yd.asB rfl) ?_
          refine DJ.done (by kernel_rfl) ?_
          refine CJ.ret ?_
          refine Fin.V (Res.three (ResV.tmp (v := .int _ _) rfl) (ResV.tmp (v := .string _) rfl) (ResV.tmp (v := .bool _) rfl)) ?_
          rfl
      · refine LJ.yd rfl (Yd.pickTB rfl rfl) ?_
        refine LJ.yd rfl (Yd.mvB rfl) ?_
        refine LJ.gF rfl rfl ?_
        refine LJ.gF rfl rfl ?_
        refine LJ.gF rfl rfl ?_
        refine LJ.gF rfl rfl ?_
        refine LJ.yd rfl (Yd.pickFB rfl rfl) ?_
        refine LJ.nil ?_
        refine CJ.condF rfl ?_
        refine CJ.exit ?_
        refine CJ.seq ?_
        have htw : bs.takeWhile isD = bs.take k ∧ bs.dropWhile isD = bs.drop k := tw_of hD (by
          first
            | exact .inl (by omega)
            | exact .inr ⟨_, hu15, isD_F (by omega)⟩
            | exact .inr ⟨_, hu21, isD_F (by omega)⟩)
        rw [htw.1, htw.2]
        refine CJ.region ?_
        refine LJ.yd rfl (Yd.mvT rfl) ?_
        refine LJ.yd rfl (Yd.mvI rfl) ?_
        refine LJ.yd rfl (Yd.slT_h rfl rfl (by omega) (by omega)) ?_
        refine LJ.callV rfl (fun k hk dk => readNumberI_ok) ?_
        refine LJ.yd rfl (Yd.mvU rfl) ?_
        refine LJ.yd rfl (Yd.extract rfl rfl) ?_
        refine LJ.yd rfl (Yd.extract rfl rfl) ?_
        refine LJ.yd rfl (Yd.asI rfl) ?_
        refine LJ.yd rfl (Yd.asB rfl) ?_
        refine LJ.nil ?_
        refine CJ.seq ?_
        refine CJ.regionD [] [] (by kernel_rfl) rfl ?_
        refine DJ.norm [] [] rfl rfl ?_
        refine DJ.yd 0 rfl (by kernel_rfl) (by kernel_rfl) (by kernel_rfl) rfl rfl (Yd.mvI rfl) ?_
        refine DJ.yd 1 rfl (by kernel_rfl) (by kernel_rfl) (by kernel_rfl) rfl rfl (Yd.mvT rfl) ?_
        refine DJ.yd 2 rfl (by kernel_rfl) (by kernel_rfl) (by kernel_rfl) rfl rfl (Yd.mvI rfl) ?_
        refine DJ.yd 3 rfl (by kernel_rfl) (by kernel_rfl) (by kernel_rfl) rfl rfl (Yd.slT_l rfl rfl (by omega) (by omega)) ?_
        refine DJ.yd 4 rfl (by kernel_rfl) (by kernel_rfl) (by kernel_rfl) rfl rfl (Yd.mvB rfl) ?_
        refine DJ.yd 5 rfl (by kernel_rfl) (by kernel_rfl) (by kernel_rfl) rfl rfl (Yd.asI rfl) ?_
        refine DJ.yd 6 rfl (by kernel_rfl) (by kernel_rfl) (by kernel_rfl) rfl rfl (Yd.asT rfl) ?_
        refine DJ.yd 7 rfl (by kernel_rfl) (by kernel_rfl) (by kernel_rfl) rfl rfl (Yd.asB rfl) ?_
        refine DJ.done (by kernel_rfl) ?_
        refine CJ.ret ?_
        refine Fin.V (Res.three (ResV.tmp (v := .int _ _) rfl) (ResV.tmp (v := .string _) rfl) (ResV.tmp (v := .bool _) rfl)) ?_
        rfl
    · refine LJ.yd rfl (Yd.mvB rfl) ?_
      refine LJ.gF rfl rfl ?_
      refine LJ.gF rfl rfl ?_
      refine LJ.gF rfl rfl ?_
      refine LJ.gF rfl rfl ?_
      refine LJ.yd rfl (Yd.pickFB rfl rfl) ?_
      refine LJ.yd rfl (Yd.mvB rfl) ?_
      refine LJ.gF rfl rfl ?_
      refine LJ.gF rfl rfl ?_
      refine LJ.gF rfl rfl ?_
      refine LJ.gF rfl rfl ?_
      refine LJ.yd rfl (Yd.pickFB rfl rfl) ?_
      refine LJ.nil ?_
      refine CJ.condF rfl ?_
      refine CJ.exit ?_
      refine CJ.seq ?_
      have htw : bs.takeWhile isD = bs.take k ∧ bs.dropWhile isD = bs.drop k := tw_of hD (by
        first
          | exact .inl (by omega)
          | exact .inr ⟨_, hu15, isD_F (by omega)⟩
          | exact .inr ⟨_, hu21, isD_F (by omega)⟩)
      rw [htw.1, htw.2]
      refine CJ.region ?_
      refine LJ.yd rfl (Yd.mvT rfl) ?_
      refine LJ.yd rfl (Yd.mvI rfl) ?_
      refine LJ.yd rfl (Yd.slT_h rfl rfl (by omega) (by omega)) ?_
      refine LJ.callV rfl (fun k hk dk => readNumberI_ok) ?_
      refine LJ.yd rfl (Yd.mvU rfl) ?_
      refine LJ.yd rfl (Yd.extract rfl rfl) ?_
      refine LJ.yd rfl (Yd.extract rfl rfl) ?_
      refine LJ.yd rfl (Yd.asI rfl) ?_
      refine LJ.yd rfl (Yd.asB rfl) ?_
      refine LJ.nil ?_
      refine CJ.seq ?_
      refine CJ.regionD [] [] (by kernel_rfl) rfl ?_
      refine DJ.norm [] [] rfl rfl ?_
      refine DJ.yd 0 rfl (by kernel_rfl) (by kernel_rfl) (by kernel_rfl) rfl rfl (Yd.mvI rfl) ?_
      refine DJ.yd 1 rfl (by kernel_rfl) (by kernel_rfl) (by kernel_rfl) rfl rfl (Yd.mvT rfl) ?_
      refine DJ.yd 2 rfl (by kernel_rfl) (by kernel_rfl) (by kernel_rfl) rfl rfl (Yd.mvI rfl) ?_
      refine DJ.yd 3 rfl (by kernel_rfl) (by kernel_rfl) (by kernel_rfl) rfl rfl (Yd.slT_l rfl rfl (by omega) (by omega)) ?_
      refine DJ.yd 4 rfl (by kernel_rfl) (by kernel_rfl) (by kernel_rfl) rfl rfl (Yd.mvB rfl) ?_
      refine DJ.yd 5 rfl (by kernel_rfl) (by kernel_rfl) (by kernel_rfl) rfl rfl (Yd.asI rfl) ?_
      refine DJ.yd 6 rfl (by kernel_rfl) (by kernel_rfl) (by kernel_rfl) rfl rfl (Yd.asT rfl) ?_
      refine DJ.yd 7 rfl (by kernel_rfl) (by kernel_rfl) (by kernel_rfl) rfl rfl (Yd.asB rfl) ?_
      refine DJ.done (by kernel_rfl) ?_
      refine CJ.ret ?_
      refine Fin.V (Res.three (ResV.tmp (v := .int _ _) rfl) (ResV.tmp (v := .string _) rfl) (ResV.tmp (v := .bool _) rfl)) ?_
      rfl
/-! ## a byte at the head -/
theorem HasPrefix_ok {A : Amb} {s : List UInt8} {c : UInt8} (hb : s.length ≤ 100000) : Ctr Try.prog 119 #[vT s, vT [c]] A [] (Val (.bool (cut c s).2)) := by
  refine Ctr.body (args := [_, _]) Try.func119 rfl Try.ntmps119 Try.results119 (by simp) ?_
  refine CJ.seq ?_
  refine CJ.region ?_
  refine LJ.yd rfl (Yd.asB rfl) ?_
  refine LJ.nil ?_
  refine CJ.seq ?_
  refine CJ.region ?_
  refine LJ.yd rfl (Yd.mvT rfl) ?_
  refine LJ.yd rfl (Yd.lenT rfl) ?_
  refine LJ.yd rfl (Yd.mvT rfl) ?_
  refine LJ.yd rfl (Yd.lenT rfl) ?_
  refine LJ.splitD rfl (Yd.geq rfl rfl) (fun h9 => ?_) (fun h9 => ?_)
  · refine LJ.yd rfl (Yd.mvB rfl) ?_
    refine LJ.gT rfl ?_
    refine LJ.yd rfl (Yd.mvT rfl) ?_
    refine LJ.gT rfl ?_
    refine LJ.yd rfl (Yd.mvT rfl) ?_
    refine LJ.gT rfl ?_
    refine LJ.yd rfl (Yd.lenT rfl) ?_
    refine LJ.gT rfl ?_
    refine LJ.yd rfl (Yd.slT_h rfl rfl (by omega) (by omega)) ?_
    refine LJ.gT rfl ?_
    refine LJ.yd rfl (Yd.mvT rfl) ?_
    refine LJ.gT rfl ?_
    refine LJ.yd rfl (Yd.eqlT rfl rfl) ?_
    refine LJ.yd rfl (Yd.pickTB rfl rfl) ?_
    refine LJ.yd rfl (Yd.asB rfl) ?_
    refine LJ.nil ?_
    refine CJ.ret ?_
    refine Fin.V (Res.one (ResV.tmp (v := .bool _) rfl)) ?_
    refine congrArg Value.bool ?_
    cases s with
    | nil => simp [cut] at *
    | cons d r =>
      simp only [cut]
      by_cases hd : d = c
      · subst hd; first | (simp at *; done) | (simp at *; omega)
      · simp [hd] at *
  · refine LJ.yd rfl (Yd.mvB rfl) ?_
    refine LJ.gF rfl rfl ?_
    refine LJ.gF rfl rfl ?_
    refine LJ.gF rfl rfl ?_
    refine LJ.gF rfl rfl ?_
    refine LJ.gF rfl rfl ?_
    refine LJ.gF rfl rfl ?_
    refine LJ.yd rfl (Yd.pickFB rfl rfl) ?_
    refine LJ.yd rfl (Yd.asB rfl) ?_
    refine LJ.nil ?_
    refine CJ.ret ?_
    refine Fin.V (Res.one (ResV.tmp (v := .bool false) rfl)) ?_
    refine congrArg Value.bool ?_
    cases s with
    | nil => simp [cut] at *
    | cons d r =>
      simp only [cut]
      by_cases hd : d = c
      · subst hd; first | (simp at *; done) | (simp at *; omega)
      · simp [hd] at *
theorem CutPrefixL_ok {A : Amb} {s : List UInt8} {c : UInt8} (hb : s.length ≤ 100000) : Ctr Try.prog 116 #[vT s, vT [c]] A [] (Val (.tuple #[vT (cut c s).1, .bool (cut c s).2])) := by
  refine Ctr.body (args := [_, _]) Try.func116 rfl Try.ntmps116 Try.results116 (by simp) ?_
  refine CJ.seq ?_
  refine CJ.region ?_
  refine LJ.yd rfl (Yd.asT rfl) ?_
  refine LJ.yd rfl (Yd.asB rfl) ?_
  refine LJ.nil ?_
  refine CJ.seq ?_
  refine CJ.seq ?_
  refine CJ.region ?_
  refine LJ.yd rfl (Yd.mvT rfl) ?_
  refine LJ.yd rfl (Yd.mvT rfl) ?_
  refine LJ.callB rfl (fun k hk dk => HasPrefix_ok hb) (fun h8 => ?_) (fun h8 => ?_)
  · refine LJ.yd rfl (Yd.not rfl) ?_
    refine LJ.nil ?_
    refine CJ.condF rfl ?_
    refine CJ.skip ?_
    refine CJ.seq ?_
    refine CJ.region ?_
    refine LJ.yd rfl (Yd.mvT rfl) ?_
    refine LJ.yd rfl (Yd.mvT rfl) ?_
    refine LJ.yd rfl (Yd.lenT rfl) ?_
    refine LJ.yd rfl (Yd.slT_l rfl rfl (by simp) (by have := congrArg List.length (cut_T h8); simp at this ⊢; omega)) ?_
    refine LJ.yd rfl (Yd.asT rfl) ?_
    refine LJ.yd rfl (Yd.asB rfl) ?_
    refine LJ.nil ?_
    refine CJ.ret ?_
    refine Fin.V (Res.two (ResV.tmp (v := .string _) rfl) (ResV.tmp (v := .bool true) rfl)) ?_
    first
      | (have e := cut_T h8
         rw [h8]
         congr 3
         rw [e]; simp [cut])
      | (rw [h8]
         congr 3
         cases s with
         | nil => rfl
         | cons d r =>
           simp only [cut] at h8 ⊢
           split at h8
           · cases h8
           · rename_i hd; rw [if_neg hd])
  · refine LJ.yd rfl (Yd.not rfl) ?_
    refine LJ.nil ?_
    refine CJ.condT rfl ?_
    refine CJ.seq ?_
    refine CJ.region ?_
    refine LJ.yd rfl (Yd.mvT rfl) ?_
    refine LJ.yd rfl (Yd.asT rfl) ?_
    refine LJ.yd rfl (Yd.asB rfl) ?_
    refine LJ.nil ?_
    refine CJ.ret ?_
    refine Fin.V (Res.two (ResV.tmp (v := .string _) rfl) (ResV.tmp (v := .bool false) rfl)) ?_
    first
      | (have e := cut_T h8
         rw [h8]
         congr 3
         rw [e]; simp [cut])
      | (rw [h8]
         congr 3
         cases s with
         | nil => rfl
         | cons d r =>
           simp only [cut] at h8 ⊢
           split at h8
           · cases h8
           · rename_i hd; rw [if_neg hd])
theorem CutPrefix_ok {A : Amb} {s : List UInt8} {c : UInt8} (hb : s.length ≤ 100000) : Ctr Try.prog 101 #[vT s, vT [c]] A [] (Val (.tuple #[vT (cut c s).1, .bool (cut c s).2])) := by
  refine Ctr.body (args := [_, _]) Try.func101 rfl Try.ntmps101 Try.results101 (by simp) ?_
  refine CJ.seq ?_
  refine CJ.region ?_
  refine LJ.yd rfl (Yd.asT rfl) ?_
  refine LJ.yd rfl (Yd.asB rfl) ?_
  refine LJ.nil ?_
  refine CJ.seq ?_
  refine CJ.region ?_
  refine LJ.yd rfl (Yd.mvT rfl) ?_
  refine LJ.yd rfl (Yd.mvT rfl) ?_
  refine LJ.callV rfl (fun k hk dk => CutPrefixL_ok hb) ?_
  refine LJ.yd rfl (Yd.extract rfl rfl) ?_
  refine LJ.yd rfl (Yd.extract (v := .bool (cut c s).2) rfl rfl) ?_
  refine LJ.yd rfl (Yd.asT rfl) ?_
  refine LJ.yd rfl (Yd.asB rfl) ?_
  refine LJ.nil ?_
  refine CJ.ret ?_
  refine Fin.V (Res.two (ResV.tmp (v := .string _) rfl) (ResV.tmp (v := .bool _) rfl)) ?_
  rfl
end Go.Proofs.Ytlpjienaennmaaa
