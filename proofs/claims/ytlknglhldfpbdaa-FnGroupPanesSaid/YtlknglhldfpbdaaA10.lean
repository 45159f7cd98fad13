/-
  Contracts: good bars; the law on first fit.
-/
import Derived.Test.YtlknglhldfpbdaaM1
import Derived.Test.YtlknglhldfpbdaaA6
import Derived.Test.YtlknglhldfpbdaaA9
namespace Go.Proofs.Ytlknglhldfpbdaa
open Go
set_option maxRecDepth 20000
set_option maxHeartbeats 1000000

theorem mapUp_get {f : Int → Int} {n i : Nat} (h : i < n) : ((upN n).map f)[i]? = some (f i) := by simp [upN, h]
theorem mapUp_len (f : Int → Int) (n : Nat) : ((upN n).map f).length = n := by simp [upN_len]
theorem ld_zero (o l : List Int) (n : Nat) : List.replicate n (0 : Int) = (upN n).map (ld o l (upN 0)) := by
  apply List.ext_getElem?
  intro i
  by_cases h : i < n
  · rw [mapUp_get h]; simp [h, ld, sumf, upN]
  · rw [List.getElem?_eq_none (by simp; omega), List.getElem?_eq_none (by rw [mapUp_len]; omega)]
theorem ld_succ (o l : List Int) (k : Nat) (b : Int) : ld o l (upN (k + 1)) b = ld o l (upN k) b + if gt o k = b then gt l k else 0 := by
  rw [ld, upN_succ, sumf_append]; simp only [sumf]; rw [Int.add_zero]; rfl
theorem ld_set {o l : List Int} {n k : Nat} {b x : Int} (hb : 0 ≤ b) (hbn : b < n) (ho : gt o k = b) (hx : gt l k = x) :
    ((upN n).map (ld o l (upN k))).set b.toNat (ld o l (upN k) b + x) = (upN n).map (ld o l (upN (k + 1))) := by
  apply List.ext_getElem?
  intro i
  rw [List.getElem?_set]
  by_cases h : i < n
  · rw [mapUp_get h, mapUp_get h, ld_succ, ho, hx]
    by_cases e : b.toNat = i
    · rw [if_pos e, if_pos (by rw [mapUp_len]; omega), if_pos (by omega), show ((i : Nat) : Int) = b by omega]
    · rw [if_neg e, if_neg (by omega), Int.add_zero]
  · rw [if_neg (by omega), List.getElem?_eq_none (by rw [mapUp_len]; omega), List.getElem?_eq_none (by rw [mapUp_len]; omega)]
theorem ld_bound {o l : List Int} (hl : ∀ u ∈ l, 0 ≤ u ∧ u ≤ 1000) : ∀ (r : List Int) (b : Int), 0 ≤ ld o l r b ∧ ld o l r b ≤ 1000 * r.length
  | [], b => by simp [ld, sumf]
  | i :: r, b => by
    have h := ld_bound (o := o) hl r b
    have hg : 0 ≤ gt l i ∧ gt l i ≤ 1000 := by
      by_cases hi : i.toNat < l.length
      · exact hl _ (gt_mem hi)
      · rw [show gt l i = 0 by simp [gt, List.getD_eq_getElem?_getD, List.getElem?_eq_none (Nat.le_of_not_lt hi)]]; omega
    simp only [ld, sumf] at h ⊢
    simp only [List.length_cons]
    split <;> omega
theorem barLengths_t {A : Amb} {v : Value} {l : List Int} {bar most : Int} (hl : RdL encI 1 A.h v l) (hb : barsOk most l bar = true) : Ctr Try.prog 47 #[v, vI bar, vI most] A [] (Val (.bool true)) := by
  have := barLengths_ok (most := most) (bar := bar) hl
  rwa [hb] at this
theorem equalInts_eq {A : Amb} {v w : Value} {l : List Int} (hl : RdL encI 1 A.h v l) (hl2 : RdL encI 1 A.h w l) : Ctr Try.prog 25 #[v, w] A [] (Val (.bool true)) := by
  have := equalInts_ok hl hl2
  rwa [decide_eq_true rfl] at this
theorem foldl_snoc (o : List Int) (a x : Int) : (o ++ [x]).foldl max a = max (o.foldl max a) x := by simp
theorem GoodBars_ok {A : Amb} {v w : Value} {l o : List Int} {bar : Int} (hl : RdL encI 1 A.h v l) (ho : RdL encI 1 A.h w o) (hb : barsOk 20 l bar = true) (hlen : o.length = l.length) (hr : ∀ x ∈ o, 0 ≤ x ∧ x < o.length)
    (hld : ∀ b, 0 ≤ b → b ≤ o.foldl max (-1) → 1 ≤ ld o l (upN l.length) b ∧ ld o l (upN l.length) b ≤ bar) : Ctr Try.prog 32 #[v, vI bar, w] A [] (Val (.bool true)) := by
  obtain ⟨la, lc, rfl, hlb, hl⟩ := hl.un
  obtain ⟨oa, oc, rfl, hob, ho⟩ := ho.un
  have hbo := barsOk_iff.1 hb
  have hlm : ∀ u ∈ l, 0 ≤ u ∧ u ≤ 1000 := fun u hu => by have := hbo.2 u hu; omega
  refine Ctr.body (args := [_, _, _]) Try.func32 rfl Try.ntmps32 Try.results32 (by simp) ?_
  refine CJ.seq ?_
  refine CJ.region ?_
  refine LJ.yd rfl (Yd.asB rfl) ?_
  refine LJ.nil ?_
  refine CJ.seq ?_
  refine CJ.seq ?_
  refine CJ.region ?_
  refine LJ.yd rfl (Yd.mvS rfl) ?_
  refine LJ.yd rfl (Yd.mvI rfl) ?_
  refine LJ.callV rfl (fun k hk dk => barLengths_t (RdRow.up hl) hb) ?_
  refine LJ.yd rfl (Yd.not rfl) ?_
  refine LJ.yd rfl (Yd.mvB rfl) ?_
  refine LJ.gT rfl ?_
  refine LJ.yd rfl (Yd.mvS rfl) ?_
  refine LJ.gT rfl ?_
  refine LJ.yd rfl (Yd.len rfl) ?_
  refine LJ.gT rfl ?_
  refine LJ.yd rfl (Yd.mvS rfl) ?_
  refine LJ.gT rfl ?_
  refine LJ.yd rfl (Yd.len rfl) ?_
  refine LJ.gT rfl ?_
  refine LJ.splitN rfl (Yd.neq rfl rfl) (fun h22 => ?_) (fun h22 => ?_)
  · exfalso; omega
  · refine LJ.yd rfl (Yd.pickFB rfl rfl) ?_
    refine LJ.nil ?_
    refine CJ.condF rfl ?_
    refine CJ.skip ?_
    refine CJ.seq ?_
    refine CJ.region ?_
    refine LJ.yd rfl (Yd.mvS rfl) ?_
    refine LJ.yd rfl (Yd.len rfl) ?_
    refine LJ.op rfl (OpR.mk (enc := encI) (0 : Int) (m := o.length) rfl rfl rfl (by first | rfl | omega | (simp; done) | (simp; omega) | (simp [upN_len]; omega) | (simp [idxBy_len]; omega) | (simp [marks_len]; omega) | (simp [upN_len]; done) | (simp [idxBy_len]; done) | (simp [marks_len]; done) | (simp at *; omega))) ?_
    rintro _ _ ⟨g26, rfl, rfl⟩
    refine LJ.norm [_] rfl ?_
    refine LJ.yd rfl (Yd.asS rfl) ?_
    refine LJ.nil ?_
    refine CJ.seq ?_
    refine CJ.region ?_
    refine LJ.yd rfl (Yd.asI rfl) ?_
    refine LJ.nil ?_
    refine CJ.seq ?_
    refine CJ.seq ?_
    refine CJ.region ?_
    refine LJ.yd rfl (Yd.mvS rfl) ?_
    refine LJ.yd rfl (Yd.len rfl) ?_
    refine LJ.yd rfl (Yd.mvI rfl) ?_
    refine LJ.nil ?_
    refine CJ.block ?_
    refine CJ.norm [LR encI 3 1 (some ⟨g26, 0, none⟩) o.length ((upN o.length).map (ld o l (upN 0)))] (by rw [← ld_zero]) ?_
    refine CJ.loopF [0, 1, 2, 7, 27, 28] (Nat × Int) (fun ⟨k, x⟩ => k ≤ o.length ∧ x = (o.take k).foldl max (-1)) (fun ⟨k, x⟩ => [(29, vI k), (8, vI x)]) (fun ⟨k, x⟩ => [LR encI 3 1 (some ⟨g26, 0, none⟩) o.length ((upN o.length).map (ld o l (upN k)))]) (fun ⟨k, x⟩ => o.length - k) (0, -1) [] [] [0] rfl rfl rfl ?_ ⟨rfl, rfl, trivial⟩ ?_
    · exact ⟨by omega, by rfl⟩
    · rintro ⟨k, x⟩ σ ⟨hk1, hx⟩
      refine CJ.norm [_] rfl ?_
      refine CJ.seq ?_
      refine CJ.region ?_
      refine LJ.splitD rfl (Yd.lss rfl rfl) (fun h30 => ?_) (fun h30 => ?_)
      · refine LJ.nil ?_
        refine CJ.seq ?_
        refine CJ.condT rfl ?_
        refine CJ.skip ?_
        refine CJ.seq ?_
        refine CJ.block ?_
        refine CJ.seq ?_
        refine CJ.region ?_
        refine LJ.yd rfl (Yd.mvI rfl) ?_
        refine LJ.idxA rfl ho rfl rfl (by omega) (by first | rfl | omega | (simp; done) | (simp; omega) | (simp [upN_len]; omega) | (simp [idxBy_len]; omega) | (simp [marks_len]; omega) | (simp [upN_len]; done) | (simp [idxBy_len]; done) | (simp [marks_len]; done) | (simp at *; omega)) (fun ib32 io32 ia32 ir32 => ?_)
        refine LJ.ldA 0 (fun u => vI u) (fun _ => rfl) ir32 rfl rfl rfl (by first | rfl | omega | (simp; done) | (simp; omega) | (simp [upN_len]; omega) | (simp [idxBy_len]; omega) | (simp [marks_len]; omega) | (simp [upN_len]; done) | (simp [idxBy_len]; done) | (simp [marks_len]; done) | (simp at *; omega)) (fun u33 hu33 => ?_)
        try simp only [Int.toNat_natCast] at hu33
        have hf33 := hr u33 (List.mem_of_getElem? hu33)
        refine LJ.yd rfl (Yd.asI rfl) ?_
        refine LJ.yd rfl (Yd.asI rfl) ?_
        refine LJ.nil ?_
        refine CJ.seq ?_
        refine CJ.seq ?_
        refine CJ.region ?_
        refine LJ.yd rfl (Yd.mvI rfl) ?_
        refine LJ.splitD rfl (Yd.lss rfl rfl) (fun h35 => ?_) (fun h35 => ?_)
        · exfalso; omega
        · refine LJ.yd rfl (Yd.mvB rfl) ?_
          refine LJ.gT rfl ?_
          refine LJ.yd rfl (Yd.mvI rfl) ?_
          refine LJ.gT rfl ?_
          refine LJ.yd rfl (Yd.mvS rfl) ?_
          refine LJ.gT rfl ?_
          refine LJ.yd rfl (Yd.len rfl) ?_
          refine LJ.gT rfl ?_
          refine LJ.splitD rfl (Yd.geq rfl rfl) (fun h40 => ?_) (fun h40 => ?_)
          · exfalso; omega
          · refine LJ.yd rfl (Yd.pickFB rfl rfl) ?_
            refine LJ.nil ?_
            refine CJ.condF rfl ?_
            refine CJ.skip ?_
            refine CJ.seq ?_
            refine CJ.regionD [] [0] (by kernel_rfl) rfl ?_
            refine DJ.norm [] [_] rfl rfl ?_
            refine DJ.yd 0 rfl (by kernel_rfl) (by kernel_rfl) (by kernel_rfl) rfl rfl (Yd.mvS rfl) ?_
            refine DJ.yd 1 rfl (by kernel_rfl) (by kernel_rfl) (by kernel_rfl) rfl rfl (Yd.mvI rfl) ?_
            refine DJ.idxR 0 rfl 2 rfl (by kernel_rfl) (by kernel_rfl) (by kernel_rfl) rfl rfl rfl rfl (by omega) (by first | rfl | omega | (simp; done) | (simp; omega) | (simp [upN_len]; omega) | (simp [idxBy_len]; omega) | (simp [marks_len]; omega) | (simp [upN_len]; done) | (simp [idxBy_len]; done) | (simp [marks_len]; done) | (simp at *; omega)) (by first | rfl | omega | (simp; done) | (simp; omega) | (simp [upN_len]; omega) | (simp [idxBy_len]; omega) | (simp [marks_len]; omega) | (simp [upN_len]; done) | (simp [idxBy_len]; done) | (simp [marks_len]; done) | (simp at *; omega)) (fun ib44 ia44 => ?_)
            refine DJ.yd 4 rfl (by kernel_rfl) (by kernel_rfl) (by kernel_rfl) rfl rfl (Yd.mvS rfl) ?_
            refine DJ.yd 5 rfl (by kernel_rfl) (by kernel_rfl) (by kernel_rfl) rfl rfl (Yd.mvI rfl) ?_
            refine DJ.idxA 6 rfl (by kernel_rfl) (by kernel_rfl) (by kernel_rfl) rfl rfl hl rfl rfl (by omega) (by first | rfl | omega | (simp; done) | (simp; omega) | (simp [upN_len]; omega) | (simp [idxBy_len]; omega) | (simp [marks_len]; omega) | (simp [upN_len]; done) | (simp [idxBy_len]; done) | (simp [marks_len]; done) | (simp at *; omega)) (fun ib48 io48 ia48 ir48 => ?_)
            refine DJ.ldA 7 rfl (by kernel_rfl) (by kernel_rfl) (by kernel_rfl) rfl rfl 0 (fun u => vI u) (fun _ => rfl) ir48 rfl rfl (by first | rfl | omega | (simp; done) | (simp; omega) | (simp [upN_len]; omega) | (simp [idxBy_len]; omega) | (simp [marks_len]; omega) | (simp [upN_len]; done) | (simp [idxBy_len]; done) | (simp [marks_len]; done) | (simp at *; omega)) (fun u49 hu49 => ?_)
            try simp only [Int.toNat_natCast] at hu49
            have hf49 := hlm u49 (List.mem_of_getElem? hu49)
            refine DJ.one (i := 3) (by kernel_rfl) ?_
            refine DO.ldR rfl rfl rfl 0 0 (fun u => vI u) (fun _ => rfl) rfl ia44 rfl rfl (by first | rfl | omega | (simp; done) | (simp; omega) | (simp [upN_len]; omega) | (simp [idxBy_len]; omega) | (simp [marks_len]; omega) | (simp [upN_len]; done) | (simp [idxBy_len]; done) | (simp [marks_len]; done) | (simp at *; omega)) (fun u45 hu45 => ?_)
            try simp only [Int.toNat_natCast] at hu45
            rw [mapUp_get (by omega)] at hu45
            have e45 := Option.some.inj hu45
            rw [show ((u33.toNat : Nat) : Int) = u33 by omega] at e45
            have hb45 := ld_bound (o := o) hlm (upN k) u33
            rw [upN_len] at hb45
            refine DJ.yd 8 rfl (by kernel_rfl) (by kernel_rfl) (by kernel_rfl) rfl rfl (Yd.add rfl rfl (by unfold I64; omega)) ?_
            refine DJ.idxR 0 rfl 9 rfl (by kernel_rfl) (by kernel_rfl) (by kernel_rfl) rfl rfl rfl rfl (by omega) (by first | rfl | omega | (simp; done) | (simp; omega) | (simp [upN_len]; omega) | (simp [idxBy_len]; omega) | (simp [marks_len]; omega) | (simp [upN_len]; done) | (simp [idxBy_len]; done) | (simp [marks_len]; done) | (simp at *; omega)) (by first | rfl | omega | (simp; done) | (simp; omega) | (simp [upN_len]; omega) | (simp [idxBy_len]; omega) | (simp [marks_len]; omega) | (simp [upN_len]; done) | (simp [idxBy_len]; done) | (simp [marks_len]; done) | (simp at *; omega)) (fun ib51 ia51 => ?_)
            refine DJ.one (i := 10) (by kernel_rfl) ?_
            refine DO.op rfl rfl rfl (fun k0 hk0 dk0 => OpR.st1 (enc := encI) (e1 := fun u => vI u) 0 (fun _ => rfl) (fun _ => rfl) (fun _ => rfl) rfl ia51 rfl rfl rfl (by first | rfl | omega | (simp; done) | (simp; omega) | (simp [upN_len]; omega) | (simp [idxBy_len]; omega) | (simp [marks_len]; omega) | (simp [upN_len]; done) | (simp [idxBy_len]; done) | (simp [marks_len]; done) | (simp at *; omega))) ?_
            rintro _ _ ⟨rfl, rfl⟩
            refine DJ.norm [] [_] rfl rfl ?_
            refine DJ.done (by kernel_rfl) ?_
            rw [show ((upN o.length).map (ld o l (upN k))).set u33.toNat (u45 + u49) = (upN o.length).map (ld o l (upN (k + 1))) by rw [← e45]; exact ld_set (by omega) (by omega) (gtC' hu33) (gtC' hu49)]
            refine CJ.region ?_
            refine LJ.yd rfl (Yd.mvI rfl) ?_
            refine LJ.yd rfl (Yd.mvI rfl) ?_
            refine LJ.yd rfl (Yd.max' rfl rfl) ?_
            refine LJ.yd rfl (Yd.asI rfl) ?_
            refine LJ.nil ?_
            refine CJ.region ?_
            refine LJ.yd rfl (Yd.add rfl rfl (by unfold I64; omega)) ?_
            refine LJ.yd rfl (Yd.mvI rfl) ?_
            refine LJ.nil ?_
            refine ⟨(k + 1, _), ?_, ⟨rfl, rfl, rfl, rfl, rfl, rfl, trivial⟩, ⟨rfl, rfl, trivial⟩, Ent.refl _, ?_⟩
            · refine ⟨by omega, ?_⟩
              rw [takeC hu33, foldl_snoc, ← hx]
            · first | omega | (dsimp only; omega) | (simp only []; omega)
      · refine LJ.nil ?_
        refine CJ.seq ?_
        refine CJ.condF rfl ?_
        refine CJ.exit ?_
        refine CJ.seq ?_
        refine CJ.seq ?_
        have hx2 : x = o.foldl max (-1) := by rw [hx, List.take_of_length_le (by omega)]
        have hx3 : x ≤ o.length - 1 := by rw [hx2]; exact mx_le (by omega) fun z hz => by have := hr z hz; omega
        have hx4 := mx_from o (-1)
        rw [← hx2] at hx4
        have hkk : k = o.length := by omega
        subst hkk
        refine CJ.region ?_
        refine LJ.yd rfl (Yd.mvS rfl) ?_
        refine LJ.yd rfl (Yd.mvI rfl) ?_
        refine LJ.yd rfl (Yd.add rfl rfl (by unfold I64; omega)) ?_
        refine LJ.slHR 0 rfl rfl rfl rfl (by omega) (by rw [mapUp_len]; omega) (fun sm59 hsm59 hs59 => ?_)
        refine LJ.yd rfl (Yd.len rfl) ?_
        refine LJ.yd rfl (Yd.mvI rfl) ?_
        refine LJ.nil ?_
        refine CJ.block ?_
        refine CJ.loopK [1, 59, 60] Nat (fun j => j ≤ sm59) (fun j => [(61, vI j)]) (fun j => sm59 - j) (0) ?_ ⟨rfl, trivial⟩ ?_
        · exact by omega
        · rintro j σ hk2
          refine CJ.seq ?_
          refine CJ.region ?_
          refine LJ.splitD rfl (Yd.lss rfl rfl) (fun h62 => ?_) (fun h62 => ?_)
          · refine LJ.nil ?_
            refine CJ.seq ?_
            refine CJ.condT rfl ?_
            refine CJ.skip ?_
            refine CJ.seq ?_
            refine CJ.block ?_
            refine CJ.seq ?_
            refine CJ.region ?_
            refine LJ.idxR 0 rfl rfl rfl rfl (by omega) (by first | rfl | omega | (simp; done) | (simp; omega) | (simp [upN_len]; omega) | (simp [idxBy_len]; omega) | (simp [marks_len]; omega) | (simp [upN_len]; done) | (simp [idxBy_len]; done) | (simp [marks_len]; done) | (simp at *; omega)) (by first | rfl | omega | (simp; done) | (simp; omega) | (simp [upN_len]; omega) | (simp [idxBy_len]; omega) | (simp [marks_len]; omega) | (simp [upN_len]; done) | (simp [idxBy_len]; done) | (simp [marks_len]; done) | (simp at *; omega)) (fun ib63 ia63 => ?_)
            refine LJ.ldR 0 0 (fun u => vI u) (fun _ => rfl) rfl ia63 rfl rfl rfl (by first | rfl | omega | (simp; done) | (simp; omega) | (simp [upN_len]; omega) | (simp [idxBy_len]; omega) | (simp [marks_len]; omega) | (simp [upN_len]; done) | (simp [idxBy_len]; done) | (simp [marks_len]; done) | (simp at *; omega)) (fun u64 hu64 => ?_)
            try simp only [Int.toNat_natCast] at hu64
            rw [mapUp_get (by omega)] at hu64
            have e64 := Option.some.inj hu64
            have hb64 := hld (j : Int) (by omega) (by omega)
            rw [← hlen, e64] at hb64
            refine LJ.yd rfl (Yd.asI rfl) ?_
            refine LJ.nil ?_
            refine CJ.seq ?_
            refine CJ.region ?_
            refine LJ.yd rfl (Yd.mvI rfl) ?_
            refine LJ.splitD rfl (Yd.eql rfl rfl) (fun h66 => ?_) (fun h66 => ?_)
            · exfalso; omega
            · refine LJ.yd rfl (Yd.mvB rfl) ?_
              refine LJ.gT rfl ?_
              refine LJ.yd rfl (Yd.mvI rfl) ?_
              refine LJ.gT rfl ?_
              refine LJ.yd rfl (Yd.mvI rfl) ?_
              refine LJ.gT rfl ?_
              refine LJ.splitD rfl (Yd.gtr rfl rfl) (fun h70 => ?_) (fun h70 => ?_)
              · exfalso; omega
              · refine LJ.yd rfl (Yd.pickFB rfl rfl) ?_
                refine LJ.nil ?_
                refine CJ.condF rfl ?_
                refine CJ.skip ?_
                refine CJ.region ?_
                refine LJ.yd rfl (Yd.add rfl rfl (by unfold I64; omega)) ?_
                refine LJ.yd rfl (Yd.mvI rfl) ?_
                refine LJ.nil ?_
                refine ⟨(j + 1), ?_, ⟨rfl, rfl, rfl, trivial⟩, ⟨rfl, trivial⟩, Ent.refl _, ?_⟩
                · omega
                · first | omega | (dsimp only; omega) | (simp only []; omega)
          · refine LJ.nil ?_
            refine CJ.seq ?_
            refine CJ.condF rfl ?_
            refine CJ.exit ?_
            refine CJ.seq ?_
            refine CJ.region ?_
            refine LJ.yd rfl (Yd.asB rfl) ?_
            refine LJ.nil ?_
            refine CJ.ret ?_
            refine Fin.V (Res.one (ResV.tmp (v := .bool true) rfl)) ?_
            rfl
theorem highest_v {A : Amb} {v : Value} {l : List Int} {x : Int} (hl : RdL encI 1 A.h v l) (e : mx l = x) : Ctr Try.prog 26 #[v] A [] (Val (vI x)) := e ▸ highest_ok hl
theorem ffR_len {l o : List Int} {bar : Int} : (if barsOk 20 l bar = true then ffit l bar o else []).length ≤ l.length := by
  split
  · rw [ffit_len]; exact Nat.le_refl _
  · simp
theorem FnFirstFit_ok {A : Amb} {a : Option Addr} {n c : Nat} (hc : Code A.h a n c) : Ctr Try.prog 8 #[.slice a n c] A [] (Val (.bool true)) := by
  have hcc := hc
  obtain ⟨hcode, hn, ha, hs⟩ := hcc
  refine Ctr.body (args := [_]) Try.func8 rfl Try.ntmps8 Try.results8 (by simp) ?_
  refine CJ.seq ?_
  refine CJ.region ?_
  refine LJ.yd rfl (Yd.asB rfl) ?_
  refine LJ.nil ?_
  refine CJ.seq ?_
  refine CJ.seq ?_
  refine CJ.region ?_
  refine LJ.yd rfl (Yd.mvS rfl) ?_
  refine LJ.yd rfl (Yd.len rfl) ?_
  refine LJ.splitD rfl (Yd.gtr rfl rfl) (fun h12 => ?_) (fun h12 => ?_)
  · refine LJ.nil ?_
    refine CJ.condT rfl ?_
    refine CJ.seq ?_
    refine CJ.region ?_
    refine LJ.yd rfl (Yd.asB rfl) ?_
    refine LJ.nil ?_
    refine CJ.ret ?_
    refine Fin.V (Res.one (ResV.tmp (v := .bool true) rfl)) ?_
    rfl
  · refine LJ.nil ?_
    refine CJ.condF rfl ?_
    refine CJ.skip ?_
    refine CJ.seq ?_
    refine CJ.region ?_
    refine LJ.yd rfl (Yd.mvS rfl) ?_
    refine LJ.call0 rfl (fun k hk dk => DrawFirstFit_ok hc.up) ?_
    rintro _ _ ⟨l, bar, aa, m, cc, rfl, rfl, rfl, hl1, hb0, hb1, hl2⟩
    refine LJ.norm [_] rfl ?_
    refine LJ.yd rfl (Yd.mvU rfl) ?_
    refine LJ.yd rfl (Yd.extract rfl rfl) ?_
    refine LJ.yd rfl (Yd.extract rfl rfl) ?_
    refine LJ.yd rfl (Yd.asS rfl) ?_
    refine LJ.yd rfl (Yd.asI rfl) ?_
    refine LJ.nil ?_
    refine CJ.seq ?_
    have hRl := ffR_len (l := l) (bar := bar) (o := upN l.length)
    refine CJ.region ?_
    refine LJ.yd rfl (Yd.mvS rfl) ?_
    refine LJ.yd rfl (Yd.mvI rfl) ?_
    refine LJ.call0 rfl (fun k hk dk => FirstFitI_ok (Sts.lrm hk dk 0 (by first | omega | (split <;> simp [hol] <;> omega)) (by first | rfl | omega | (simp; done) | (simp; omega) | (simp [upN_len]; omega) | (simp [idxBy_len]; omega) | (simp [marks_len]; omega) | (simp [upN_len]; done) | (simp [idxBy_len]; done) | (simp [marks_len]; done) | (simp at *; omega)) rfl)) ?_
    rintro _ _ ⟨ra20, rc20, rfl, rfl⟩
    refine LJ.norm [_, _] rfl ?_
    refine LJ.yd rfl (Yd.asS rfl) ?_
    refine LJ.nil ?_
    refine CJ.seq ?_
    refine CJ.seq ?_
    refine CJ.region ?_
    refine LJ.yd rfl (Yd.mvS rfl) ?_
    refine LJ.yd rfl (Yd.mvS rfl) ?_
    refine LJ.yd rfl (Yd.mvI rfl) ?_
    refine LJ.call0 rfl (fun k hk dk => FirstFitS_ok (Sts.lrm hk dk 0 (by first | omega | (split <;> simp [hol] <;> omega)) (by first | rfl | omega | (simp; done) | (simp; omega) | (simp [upN_len]; omega) | (simp [idxBy_len]; omega) | (simp [marks_len]; omega) | (simp [upN_len]; done) | (simp [idxBy_len]; done) | (simp [marks_len]; done) | (simp at *; omega)) rfl)) ?_
    rintro _ _ ⟨ra24, rc24, rfl, rfl⟩
    refine LJ.norm [_, _, _] rfl ?_
    refine LJ.callV rfl (fun k hk dk => equalInts_eq (Sts.lrm hk dk 1 (by first | omega | (split <;> simp [hol] <;> omega)) (by first | rfl | omega | (simp; done) | (simp; omega) | (simp [upN_len]; omega) | (simp [idxBy_len]; omega) | (simp [marks_len]; omega) | (simp [upN_len]; done) | (simp [idxBy_len]; done) | (simp [marks_len]; done) | (simp at *; omega)) rfl) (Sts.lrm hk dk 2 (by first | omega | (split <;> simp [hol] <;> omega)) (by first | rfl | omega | (simp; done) | (simp; omega) | (simp [upN_len]; omega) | (simp [idxBy_len]; omega) | (simp [marks_len]; omega) | (simp [upN_len]; done) | (simp [idxBy_len]; done) | (simp [marks_len]; done) | (simp at *; omega)) rfl)) ?_
    refine LJ.yd rfl (Yd.not rfl) ?_
    refine LJ.yd rfl (Yd.mvB rfl) ?_
    refine LJ.gT rfl ?_
    refine LJ.yd rfl (Yd.mvS rfl) ?_
    refine LJ.gT rfl ?_
    refine LJ.yd rfl (Yd.len rfl) ?_
    refine LJ.gT rfl ?_
    refine LJ.splitD rfl (Yd.eql rfl rfl) (fun h30 => ?_) (fun h30 => ?_)
    · refine LJ.yd rfl (Yd.pickFB rfl rfl) ?_
      refine LJ.nil ?_
      refine CJ.condT rfl ?_
      refine CJ.seq ?_
      refine CJ.region ?_
      refine LJ.yd rfl (Yd.mvS rfl) ?_
      refine LJ.yd rfl (Yd.mvS rfl) ?_
      refine LJ.yd rfl (Yd.mvI rfl) ?_
      refine LJ.call0 rfl (fun k hk dk => FirstFitS_ok (Sts.lrm hk dk 0 (by first | omega | (split <;> simp [hol] <;> omega)) (by first | rfl | omega | (simp; done) | (simp; omega) | (simp [upN_len]; omega) | (simp [idxBy_len]; omega) | (simp [marks_len]; omega) | (simp [upN_len]; done) | (simp [idxBy_len]; done) | (simp [marks_len]; done) | (simp at *; omega)) rfl)) ?_
      rintro _ _ ⟨ra35, rc35, rfl, rfl⟩
      refine LJ.norm [_, _, _, _] rfl ?_
      refine LJ.callV rfl (fun k hk dk => equalInts_eq (Sts.lrm hk dk 1 (by first | omega | (split <;> simp [hol] <;> omega)) (by first | rfl | omega | (simp; done) | (simp; omega) | (simp [upN_len]; omega) | (simp [idxBy_len]; omega) | (simp [marks_len]; omega) | (simp [upN_len]; done) | (simp [idxBy_len]; done) | (simp [marks_len]; done) | (simp at *; omega)) rfl) (Sts.lrm hk dk 3 (by first | omega | (split <;> simp [hol] <;> omega)) (by first | rfl | omega | (simp; done) | (simp; omega) | (simp [upN_len]; omega) | (simp [idxBy_len]; omega) | (simp [marks_len]; omega) | (simp [upN_len]; done) | (simp [idxBy_len]; done) | (simp [marks_len]; done) | (simp at *; omega)) rfl)) ?_
      refine LJ.yd rfl (Yd.asB rfl) ?_
      refine LJ.nil ?_
      refine CJ.ret ?_
      refine Fin.V (Res.one (ResV.tmp (v := .bool true) rfl)) ?_
      rfl
    · refine LJ.yd rfl (Yd.pickFB rfl rfl) ?_
      refine LJ.nil ?_
      refine CJ.condF rfl ?_
      refine CJ.skip ?_
      refine CJ.seq ?_
      have hbo : barsOk 20 l bar = true := by
        cases hb : barsOk 20 l bar with
        | true => rfl
        | false => exfalso; rw [hb] at h30; exact h30 rfl
      have hb2 := barsOk_iff.1 hbo
      rw [if_pos hbo] at h30
      rw [if_pos hbo]
      have hol := ffit_len l bar (upN l.length)
      have h0 : 0 < l.length := by omega
      have hm := hb2.2
      have hor := ffit_lt hm (List.Perm.refl (upN l.length))
      have hmx := ff_mx hm (List.Perm.refl (upN l.length)) h0 0 (by omega)
      have hmx1 := ff_mx hm (List.Perm.refl (upN l.length)) h0 (-1) (by omega)
      have hsl := ffS_le l bar (upN l.length)
      rw [upN_len] at hsl
      have hgl : ∀ b, 0 ≤ b → b ≤ (ffit l bar (upN l.length)).foldl max (-1) → 1 ≤ ld (ffit l bar (upN l.length)) l (upN l.length) b ∧ ld (ffit l bar (upN l.length)) l (upN l.length) b ≤ bar := fun b h1 h2 => ff_ld hm (List.Perm.refl (upN l.length)) h1 (by omega)
      refine CJ.region ?_
      refine LJ.yd rfl (Yd.mvS rfl) ?_
      refine LJ.callV rfl (fun k hk dk => highest_v (Sts.lrm hk dk 1 (by first | omega | (split <;> simp [hol] <;> omega)) (by first | rfl | omega | (simp; done) | (simp; omega) | (simp [upN_len]; omega) | (simp [idxBy_len]; omega) | (simp [marks_len]; omega) | (simp [upN_len]; done) | (simp [idxBy_len]; done) | (simp [marks_len]; done) | (simp at *; omega)) rfl) hmx) ?_
      refine LJ.yd rfl (Yd.add rfl rfl (by unfold I64; omega)) ?_
      refine LJ.op rfl (OpR.mk (enc := encI) (0 : Int) (m := (ffS l bar (upN l.length)).length) rfl (congrArg vI (by omega)) (congrArg vI (by omega)) (by first | rfl | omega | (simp; done) | (simp; omega) | (simp [upN_len]; omega) | (simp [idxBy_len]; omega) | (simp [marks_len]; omega) | (simp [upN_len]; done) | (simp [idxBy_len]; done) | (simp [marks_len]; done) | (simp at *; omega))) ?_
      rintro _ _ ⟨g40, rfl, rfl⟩
      refine LJ.norm [_, _, _, _] rfl ?_
      refine LJ.yd rfl (Yd.asS rfl) ?_
      refine LJ.nil ?_
      refine CJ.seq ?_
      refine CJ.seq ?_
      refine CJ.region ?_
      refine LJ.yd rfl (Yd.asI rfl) ?_
      refine LJ.nil ?_
      refine CJ.block ?_
      rw [ld_zero (ffit l bar (upN l.length)) l (ffS l bar (upN l.length)).length]
      refine CJ.loopF [2, 3, 4, 5, 6] Nat (fun k => k ≤ (ffit l bar (upN l.length)).length) (fun k => [(7, vI k)]) (fun k => [LR encI 3 1 (some ⟨g40, 0, none⟩) (ffS l bar (upN l.length)).length ((upN (ffS l bar (upN l.length)).length).map (ld (ffit l bar (upN l.length)) l (upN k)))]) (fun k => (ffit l bar (upN l.length)).length - k) (0) [_, _, _] [0, 1, 2] [3] rfl rfl rfl ?_ ⟨rfl, trivial⟩ ?_
      · exact by omega
      · rintro k σ hk1
        refine CJ.norm [_, _, _, _] rfl ?_
        refine CJ.seq ?_
        refine CJ.seq ?_
        refine CJ.region ?_
        refine LJ.yd rfl (Yd.mvI rfl) ?_
        refine LJ.yd rfl (Yd.mvS rfl) ?_
        refine LJ.yd rfl (Yd.len rfl) ?_
        refine LJ.splitD rfl (Yd.lss rfl rfl) (fun h44 => ?_) (fun h44 => ?_)
        · refine LJ.nil ?_
          refine CJ.condT rfl ?_
          refine CJ.skip ?_
          refine CJ.seq ?_
          refine CJ.block ?_
          refine CJ.regionD [0, 1, 2] [3] (by kernel_rfl) rfl ?_
          refine DJ.norm [_, _, _] [_] rfl rfl ?_
          refine DJ.yd 0 rfl (by kernel_rfl) (by kernel_rfl) (by kernel_rfl) rfl rfl (Yd.mvS rfl) ?_
          refine DJ.yd 1 rfl (by kernel_rfl) (by kernel_rfl) (by kernel_rfl) rfl rfl (Yd.mvS rfl) ?_
          refine DJ.yd 2 rfl (by kernel_rfl) (by kernel_rfl) (by kernel_rfl) rfl rfl (Yd.mvI rfl) ?_
          refine DJ.idxF 1 rfl 3 rfl (by kernel_rfl) (by kernel_rfl) (by kernel_rfl) rfl rfl rfl rfl (by omega) (by first | rfl | omega | (simp; done) | (simp; omega) | (simp [upN_len]; omega) | (simp [idxBy_len]; omega) | (simp [marks_len]; omega) | (simp [upN_len]; done) | (simp [idxBy_len]; done) | (simp [marks_len]; done) | (simp at *; omega)) (by first | rfl | omega | (simp; done) | (simp; omega) | (simp [upN_len]; omega) | (simp [idxBy_len]; omega) | (simp [marks_len]; omega) | (simp [upN_len]; done) | (simp [idxBy_len]; done) | (simp [marks_len]; done) | (simp at *; omega)) (fun ib50 ia50 => ?_)
          refine DJ.ldF 4 rfl (by kernel_rfl) (by kernel_rfl) (by kernel_rfl) rfl rfl 1 0 (fun u => vI u) (fun _ => rfl) rfl ia50 rfl rfl (by first | rfl | omega | (simp; done) | (simp; omega) | (simp [upN_len]; omega) | (simp [idxBy_len]; omega) | (simp [marks_len]; omega) | (simp [upN_len]; done) | (simp [idxBy_len]; done) | (simp [marks_len]; done) | (simp at *; omega)) (fun u51 hu51 => ?_)
          try simp only [Int.toNat_natCast] at hu51
          have hf51 := hor u51 (List.mem_of_getElem? hu51)
          refine DJ.yd 5 rfl (by kernel_rfl) (by kernel_rfl) (by kernel_rfl) rfl rfl (Yd.mvS rfl) ?_
          refine DJ.yd 6 rfl (by kernel_rfl) (by kernel_rfl) (by kernel_rfl) rfl rfl (Yd.mvS rfl) ?_
          refine DJ.yd 7 rfl (by kernel_rfl) (by kernel_rfl) (by kernel_rfl) rfl rfl (Yd.mvI rfl) ?_
          refine DJ.idxF 1 rfl 8 rfl (by kernel_rfl) (by kernel_rfl) (by kernel_rfl) rfl rfl rfl rfl (by omega) (by first | rfl | omega | (simp; done) | (simp; omega) | (simp [upN_len]; omega) | (simp [idxBy_len]; omega) | (simp [marks_len]; omega) | (simp [upN_len]; done) | (simp [idxBy_len]; done) | (simp [marks_len]; done) | (simp at *; omega)) (by first | rfl | omega | (simp; done) | (simp; omega) | (simp [upN_len]; omega) | (simp [idxBy_len]; omega) | (simp [marks_len]; omega) | (simp [upN_len]; done) | (simp [idxBy_len]; done) | (simp [marks_len]; done) | (simp at *; omega)) (fun ib55 ia55 => ?_)
          refine DJ.ldF 9 rfl (by kernel_rfl) (by kernel_rfl) (by kernel_rfl) rfl rfl 1 0 (fun u => vI u) (fun _ => rfl) rfl ia55 rfl rfl (by first | rfl | omega | (simp; done) | (simp; omega) | (simp [upN_len]; omega) | (simp [idxBy_len]; omega) | (simp [marks_len]; omega) | (simp [upN_len]; done) | (simp [idxBy_len]; done) | (simp [marks_len]; done) | (simp at *; omega)) (fun u56 hu56 => ?_)
          try simp only [Int.toNat_natCast] at hu56
          have e56 : u56 = u51 := by rw [hu51] at hu56; exact (Option.some.inj hu56).symm
          have hlm : ∀ u ∈ l, 0 ≤ u ∧ u ≤ 1000 := fun u hu => by have := hm u hu; omega
          refine DJ.idxR 0 rfl 10 rfl (by kernel_rfl) (by kernel_rfl) (by kernel_rfl) rfl rfl rfl rfl (by omega) (by first | rfl | omega | (simp; done) | (simp; omega) | (simp [upN_len]; omega) | (simp [idxBy_len]; omega) | (simp [marks_len]; omega) | (simp [upN_len]; done) | (simp [idxBy_len]; done) | (simp [marks_len]; done) | (simp at *; omega)) (by first | rfl | omega | (simp; done) | (simp; omega) | (simp [upN_len]; omega) | (simp [idxBy_len]; omega) | (simp [marks_len]; omega) | (simp [upN_len]; done) | (simp [idxBy_len]; done) | (simp [marks_len]; done) | (simp at *; omega)) (fun ib57 ia57 => ?_)
          refine DJ.yd 12 rfl (by kernel_rfl) (by kernel_rfl) (by kernel_rfl) rfl rfl (Yd.mvS rfl) ?_
          refine DJ.yd 13 rfl (by kernel_rfl) (by kernel_rfl) (by kernel_rfl) rfl rfl (Yd.mvI rfl) ?_
          refine DJ.idxF 0 rfl 14 rfl (by kernel_rfl) (by kernel_rfl) (by kernel_rfl) rfl rfl rfl rfl (by omega) (by first | rfl | omega | (simp; done) | (simp; omega) | (simp [upN_len]; omega) | (simp [idxBy_len]; omega) | (simp [marks_len]; omega) | (simp [upN_len]; done) | (simp [idxBy_len]; done) | (simp [marks_len]; done) | (simp at *; omega)) (by first | rfl | omega | (simp; done) | (simp; omega) | (simp [upN_len]; omega) | (simp [idxBy_len]; omega) | (simp [marks_len]; omega) | (simp [upN_len]; done) | (simp [idxBy_len]; done) | (simp [marks_len]; done) | (simp at *; omega)) (fun ib61 ia61 => ?_)
          refine DJ.ldF 15 rfl (by kernel_rfl) (by kernel_rfl) (by kernel_rfl) rfl rfl 0 0 (fun u => vI u) (fun _ => rfl) rfl ia61 rfl rfl (by first | rfl | omega | (simp; done) | (simp; omega) | (simp [upN_len]; omega) | (simp [idxBy_len]; omega) | (simp [marks_len]; omega) | (simp [upN_len]; done) | (simp [idxBy_len]; done) | (simp [marks_len]; done) | (simp at *; omega)) (fun u62 hu62 => ?_)
          try simp only [Int.toNat_natCast] at hu62
          have hf62 := hm u62 (List.mem_of_getElem? hu62)
          refine DJ.one (i := 11) (by kernel_rfl) ?_
          refine DO.ldR rfl rfl rfl 0 0 (fun u => vI u) (fun _ => rfl) rfl ia57 rfl rfl (by first | rfl | omega | (simp; done) | (simp; omega) | (simp [upN_len]; omega) | (simp [idxBy_len]; omega) | (simp [marks_len]; omega) | (simp [upN_len]; done) | (simp [idxBy_len]; done) | (simp [marks_len]; done) | (simp at *; omega)) (fun u58 hu58 => ?_)
          try simp only [Int.toNat_natCast] at hu58
          rw [mapUp_get (by omega)] at hu58
          have e58 := Option.some.inj hu58
          rw [show ((u56.toNat : Nat) : Int) = u56 by omega] at e58
          have hb58 := ld_bound (o := ffit l bar (upN l.length)) hlm (upN k) u56
          rw [upN_len] at hb58
          refine DJ.yd 16 rfl (by kernel_rfl) (by kernel_rfl) (by kernel_rfl) rfl rfl (Yd.add rfl rfl (by unfold I64; omega)) ?_
          refine DJ.idxR 0 rfl 17 rfl (by kernel_rfl) (by kernel_rfl) (by kernel_rfl) rfl rfl rfl rfl (by omega) (by first | rfl | omega | (simp; done) | (simp; omega) | (simp [upN_len]; omega) | (simp [idxBy_len]; omega) | (simp [marks_len]; omega) | (simp [upN_len]; done) | (simp [idxBy_len]; done) | (simp [marks_len]; done) | (simp at *; omega)) (by first | rfl | omega | (simp; done) | (simp; omega) | (simp [upN_len]; omega) | (simp [idxBy_len]; omega) | (simp [marks_len]; omega) | (simp [upN_len]; done) | (simp [idxBy_len]; done) | (simp [marks_len]; done) | (simp at *; omega)) (fun ib64 ia64 => ?_)
          refine DJ.one (i := 18) (by kernel_rfl) ?_
          refine DO.op rfl rfl rfl (fun k0 hk0 dk0 => OpR.st1 (enc := encI) (e1 := fun u => vI u) 0 (fun _ => rfl) (fun _ => rfl) (fun _ => rfl) rfl ia64 rfl rfl rfl (by first | rfl | omega | (simp; done) | (simp; omega) | (simp [upN_len]; omega) | (simp [idxBy_len]; omega) | (simp [marks_len]; omega) | (simp [upN_len]; done) | (simp [idxBy_len]; done) | (simp [marks_len]; done) | (simp at *; omega))) ?_
          rintro _ _ ⟨rfl, rfl⟩
          refine DJ.norm [_, _, _] [_] rfl rfl ?_
          refine DJ.done (by kernel_rfl) ?_
          rw [show ((upN (ffS l bar (upN l.length)).length).map (ld (ffit l bar (upN l.length)) l (upN k))).set u51.toNat (u58 + u62) = (upN (ffS l bar (upN l.length)).length).map (ld (ffit l bar (upN l.length)) l (upN (k + 1))) by rw [← e58, e56]; exact ld_set (by omega) (by omega) (gtC' hu51) (gtC' hu62)]
          refine CJ.region ?_
          refine LJ.yd rfl (Yd.mvI rfl) ?_
          refine LJ.yd rfl (Yd.add rfl rfl (by unfold I64; omega)) ?_
          refine LJ.yd rfl (Yd.asI rfl) ?_
          refine LJ.nil ?_
          refine ⟨(k + 1), ?_, ⟨rfl, rfl, rfl, rfl, rfl, trivial⟩, ⟨rfl, trivial⟩, Ent.refl _, ?_⟩
          · omega
          · first | omega | (dsimp only; omega) | (simp only []; omega)
        · refine LJ.nil ?_
          refine CJ.condF rfl ?_
          refine CJ.exit ?_
          refine CJ.seq ?_
          refine CJ.seq ?_
          have hkk : k = l.length := by omega
          subst hkk
          have hF := ff_final hm (List.Perm.refl (upN l.length))
          refine CJ.region ?_
          refine LJ.yd rfl (Yd.asI rfl) ?_
          refine LJ.nil ?_
          refine CJ.block ?_
          refine CJ.loopK [3, 4, 5, 6] Nat (fun b => b ≤ (ffS l bar (upN l.length)).length) (fun b => [(8, vI b)]) (fun b => (ffS l bar (upN l.length)).length - b) (0) ?_ ⟨rfl, trivial⟩ ?_
          · exact by omega
          · rintro b σ hb
            refine CJ.seq ?_
            refine CJ.seq ?_
            refine CJ.region ?_
            refine LJ.yd rfl (Yd.mvI rfl) ?_
            refine LJ.yd rfl (Yd.mvS rfl) ?_
            refine LJ.yd rfl (Yd.len rfl) ?_
            refine LJ.splitD rfl (Yd.lss rfl rfl) (fun h68 => ?_) (fun h68 => ?_)
            · refine LJ.nil ?_
              refine CJ.condT rfl ?_
              refine CJ.skip ?_
              refine CJ.seq ?_
              refine CJ.block ?_
              refine CJ.seq ?_
              refine CJ.region ?_
              refine LJ.yd rfl (Yd.asI rfl) ?_
              refine LJ.nil ?_
              refine CJ.block ?_
              refine CJ.loopK [3, 4, 5, 6, 8, 65, 66, 67, 68] Nat (fun q => q ≤ b) (fun q => [(9, vI q)]) (fun q => b - q) (0) ?_ ⟨rfl, trivial⟩ ?_
              · exact by omega
              · rintro q σ hq
                refine CJ.seq ?_
                refine CJ.seq ?_
                refine CJ.region ?_
                refine LJ.yd rfl (Yd.mvI rfl) ?_
                refine LJ.yd rfl (Yd.mvI rfl) ?_
                refine LJ.splitD rfl (Yd.lss rfl rfl) (fun h73 => ?_) (fun h73 => ?_)
                · refine LJ.nil ?_
                  refine CJ.condT rfl ?_
                  refine CJ.skip ?_
                  refine CJ.seq ?_
                  refine CJ.block ?_
                  refine CJ.seq ?_
                  refine CJ.regionD [0, 1, 2, 3] [] (by kernel_rfl) rfl ?_
                  refine DJ.norm [_, _, _, _] [] rfl rfl ?_
                  refine DJ.yd 0 rfl (by kernel_rfl) (by kernel_rfl) (by kernel_rfl) rfl rfl (Yd.mvS rfl) ?_
                  refine DJ.yd 1 rfl (by kernel_rfl) (by kernel_rfl) (by kernel_rfl) rfl rfl (Yd.mvI rfl) ?_
                  refine DJ.idxF 3 rfl 2 rfl (by kernel_rfl) (by kernel_rfl) (by kernel_rfl) rfl rfl rfl rfl (by omega) (by first | rfl | omega | (simp; done) | (simp; omega) | (simp [upN_len]; omega) | (simp [idxBy_len]; omega) | (simp [marks_len]; omega) | (simp [upN_len]; done) | (simp [idxBy_len]; done) | (simp [marks_len]; done) | (simp at *; omega)) (by first | rfl | omega | (simp; done) | (simp; omega) | (simp [upN_len]; omega) | (simp [idxBy_len]; omega) | (simp [marks_len]; omega) | (simp [upN_len]; done) | (simp [idxBy_len]; done) | (simp [marks_len]; done) | (simp at *; omega)) (fun ib78 ia78 => ?_)
                  refine DJ.ldF 3 rfl (by kernel_rfl) (by kernel_rfl) (by kernel_rfl) rfl rfl 3 0 (fun u => vI u) (fun _ => rfl) rfl ia78 rfl rfl (by first | rfl | omega | (simp; done) | (simp; omega) | (simp [upN_len]; omega) | (simp [idxBy_len]; omega) | (simp [marks_len]; omega) | (simp [upN_len]; done) | (simp [idxBy_len]; done) | (simp [marks_len]; done) | (simp at *; omega)) (fun u79 hu79 => ?_)
                  try simp only [Int.toNat_natCast] at hu79
                  rw [mapUp_get (by omega)] at hu79
                  have e79 := Option.some.inj hu79
                  have hb79 := ff_ld hm (List.Perm.refl (upN l.length)) (b := (b : Int)) (by omega) (by omega)
                  rw [e79] at hb79
                  refine DJ.yd 4 rfl (by kernel_rfl) (by kernel_rfl) (by kernel_rfl) rfl rfl (Yd.mvS rfl) ?_
                  refine DJ.yd 5 rfl (by kernel_rfl) (by kernel_rfl) (by kernel_rfl) rfl rfl (Yd.mvI rfl) ?_
                  refine DJ.idxF 3 rfl 6 rfl (by kernel_rfl) (by kernel_rfl) (by kernel_rfl) rfl rfl rfl rfl (by omega) (by first | rfl | omega | (simp; done) | (simp; omega) | (simp [upN_len]; omega) | (simp [idxBy_len]; omega) | (simp [marks_len]; omega) | (simp [upN_len]; done) | (simp [idxBy_len]; done) | (simp [marks_len]; done) | (simp at *; omega)) (by first | rfl | omega | (simp; done) | (simp; omega) | (simp [upN_len]; omega) | (simp [idxBy_len]; omega) | (simp [marks_len]; omega) | (simp [upN_len]; done) | (simp [idxBy_len]; done) | (simp [marks_len]; done) | (simp at *; omega)) (fun ib82 ia82 => ?_)
                  refine DJ.ldF 7 rfl (by kernel_rfl) (by kernel_rfl) (by kernel_rfl) rfl rfl 3 0 (fun u => vI u) (fun _ => rfl) rfl ia82 rfl rfl (by first | rfl | omega | (simp; done) | (simp; omega) | (simp [upN_len]; omega) | (simp [idxBy_len]; omega) | (simp [marks_len]; omega) | (simp [upN_len]; done) | (simp [idxBy_len]; done) | (simp [marks_len]; done) | (simp at *; omega)) (fun u83 hu83 => ?_)
                  try simp only [Int.toNat_natCast] at hu83
                  rw [mapUp_get (by omega)] at hu83
                  have e83 := Option.some.inj hu83
                  have hb83 := ff_ld hm (List.Perm.refl (upN l.length)) (b := (q : Int)) (by omega) (by omega)
                  rw [e83] at hb83
                  refine DJ.yd 8 rfl (by kernel_rfl) (by kernel_rfl) (by kernel_rfl) rfl rfl (Yd.add rfl rfl (by unfold I64; omega)) ?_
                  refine DJ.yd 9 rfl (by kernel_rfl) (by kernel_rfl) (by kernel_rfl) rfl rfl (Yd.mvI rfl) ?_
                  refine DJ.splitD 10 rfl (by kernel_rfl) (by kernel_rfl) (by kernel_rfl) rfl rfl (Yd.leq rfl rfl) (fun h86 => ?_) (fun h86 => ?_)
                  · exfalso; have := hF.two q b (by omega) (by omega); rw [hF.ld, hF.ld, e79, e83] at this; omega
                  · refine DJ.done (by kernel_rfl) ?_
                    refine CJ.condF rfl ?_
                    refine CJ.skip ?_
                    refine CJ.region ?_
                    refine LJ.yd rfl (Yd.mvI rfl) ?_
                    refine LJ.yd rfl (Yd.add rfl rfl (by unfold I64; omega)) ?_
                    refine LJ.yd rfl (Yd.asI rfl) ?_
                    refine LJ.nil ?_
                    refine ⟨(q + 1), ?_, ⟨rfl, rfl, rfl, rfl, rfl, rfl, rfl, rfl, rfl, trivial⟩, ⟨rfl, trivial⟩, Ent.refl _, ?_⟩
                    · omega
                    · first | omega | (dsimp only; omega) | (simp only []; omega)
                · refine LJ.nil ?_
                  refine CJ.condF rfl ?_
                  refine CJ.exit ?_
                  refine CJ.region ?_
                  refine LJ.yd rfl (Yd.mvI rfl) ?_
                  refine LJ.yd rfl (Yd.add rfl rfl (by unfold I64; omega)) ?_
                  refine LJ.yd rfl (Yd.asI rfl) ?_
                  refine LJ.nil ?_
                  refine ⟨(b + 1), ?_, ⟨rfl, rfl, rfl, rfl, trivial⟩, ⟨rfl, trivial⟩, Ent.refl _, ?_⟩
                  · omega
                  · first | omega | (dsimp only; omega) | (simp only []; omega)
            · refine LJ.nil ?_
              refine CJ.condF rfl ?_
              refine CJ.exit ?_
              refine CJ.seq ?_
              refine CJ.region ?_
              refine LJ.yd rfl (Yd.mvS rfl) ?_
              refine LJ.yd rfl (Yd.mvI rfl) ?_
              refine LJ.yd rfl (Yd.mvS rfl) ?_
              refine LJ.callV rfl (fun k hk dk => GoodBars_ok (Sts.lrm hk dk 0 (by first | omega | (split <;> simp [hol] <;> omega)) (by first | rfl | omega | (simp; done) | (simp; omega) | (simp [upN_len]; omega) | (simp [idxBy_len]; omega) | (simp [marks_len]; omega) | (simp [upN_len]; done) | (simp [idxBy_len]; done) | (simp [marks_len]; done) | (simp at *; omega)) rfl) (Sts.lrm hk dk 1 (by first | omega | (split <;> simp [hol] <;> omega)) (by first | rfl | omega | (simp; done) | (simp; omega) | (simp [upN_len]; omega) | (simp [idxBy_len]; omega) | (simp [marks_len]; omega) | (simp [upN_len]; done) | (simp [idxBy_len]; done) | (simp [marks_len]; done) | (simp at *; omega)) rfl) hbo (ffit_len _ _ _) (fun x hx => by have := hor x hx; omega) hgl) ?_
              refine LJ.yd rfl (Yd.asB rfl) ?_
              refine LJ.nil ?_
              refine CJ.ret ?_
              refine Fin.V (Res.one (ResV.tmp (v := .bool _) rfl)) ?_
              rfl
end Go.Proofs.Ytlknglhldfpbdaa
