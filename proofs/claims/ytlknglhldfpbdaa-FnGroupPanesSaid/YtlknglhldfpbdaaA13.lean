/-
  Contracts: how long a furnace works.
-/
import Derived.Test.YtlknglhldfpbdaaA8
import Derived.Test.YtlknglhldfpbdaaLA
namespace Go.Proofs.Ytlknglhldfpbdaa
open Go
set_option maxRecDepth 20000
set_option maxHeartbeats 1000000

/-- the greatest time of a group -/
def gm : List Int → List Int → Int → Int
  | u :: t, x :: r, g => if x = g then max u (gm t r g) else gm t r g
  | _, _, _ => 0
theorem gm_nn : ∀ (t r : List Int) (g : Int), 0 ≤ gm t r g
  | [], _, _ => by simp [gm]
  | _ :: _, [], _ => by simp [gm]
  | u :: t, x :: r, g => by have := gm_nn t r g; simp only [gm]; split <;> omega
theorem gm_le : ∀ {t r : List Int} {g B : Int}, 0 ≤ B → (∀ u ∈ t, u ≤ B) → gm t r g ≤ B
  | [], _, _, _, h, _ => by simpa [gm] using h
  | _ :: _, [], _, _, h, _ => by simpa [gm] using h
  | u :: t, x :: r, g, B, h, hb => by
    have h1 := gm_le (r := r) (g := g) h (fun z hz => hb z (List.mem_cons_of_mem _ hz))
    have h2 := hb u List.mem_cons_self
    simp only [gm]; split <;> omega
theorem gm_snoc : ∀ {t r : List Int} {u x g : Int}, t.length = r.length → 0 ≤ u → gm (t ++ [u]) (r ++ [x]) g = if x = g then max (gm t r g) u else gm t r g
  | [], [], u, x, g, _, h => by simp only [List.nil_append, gm]; split <;> omega
  | [], _ :: _, _, _, _, h, _ => by simp at h
  | _ :: _, [], _, _, _, h, _ => by simp at h
  | a :: t, b :: r, u, x, g, h, h0 => by
    simp only [List.cons_append, gm]
    rw [gm_snoc (by simpa using h) h0]
    split <;> split <;> omega
def fsN (t r : List Int) : Nat → Int
  | 0 => 0
  | n + 1 => fsN t r n + gm t r n
def ftR (t r : List Int) (room : Int) : Int := if grpOk t r room = true then fsN t r 16 else -1
theorem fsN_b {t r : List Int} (h : ∀ u ∈ t, u ≤ 500) : ∀ n : Nat, 0 ≤ fsN t r n ∧ fsN t r n ≤ 500 * n
  | 0 => by simp [fsN]
  | n + 1 => by
    have h1 := fsN_b (t := t) (r := r) h n
    have h2 := gm_nn t r n
    have h3 := gm_le (t := t) (r := r) (g := n) (B := 500) (by omega) h
    simp only [fsN]; omega
theorem fireTimeS_ok {A : Amb} {v w : Value} {t r : List Int} (hl : RdL encI 1 A.h v t) (hg : RdL encI 1 A.h w r) (ht : ∀ u ∈ t, 0 ≤ u ∧ u ≤ 500) (hlen : r.length = t.length) : Ctr Try.prog 61 #[v, w] A [] (Val (vI (fsN t r 16))) := by
  obtain ⟨la, lc, rfl, hlb, hl⟩ := hl.un
  obtain ⟨ga, gc, rfl, hgb, hg⟩ := hg.un
  refine Ctr.body (args := [_, _]) Try.func61 rfl Try.ntmps61 Try.results61 (by simp) ?_
  refine CJ.seq ?_
  refine CJ.region ?_
  refine LJ.yd rfl (Yd.asI rfl) ?_
  refine LJ.nil ?_
  refine CJ.seq ?_
  refine CJ.region ?_
  refine LJ.yd rfl (Yd.asI rfl) ?_
  refine LJ.nil ?_
  refine CJ.seq ?_
  refine CJ.seq ?_
  refine CJ.region ?_
  refine LJ.yd rfl (Yd.asI rfl) ?_
  refine LJ.nil ?_
  refine CJ.block ?_
  refine CJ.loopK [0, 1, 4] (Nat × Int) (fun ⟨e, x⟩ => e ≤ 16 ∧ x = fsN t r e) (fun ⟨e, x⟩ => [(6, vI e), (5, vI x)]) (fun ⟨e, x⟩ => 16 - e) (0, 0) ?_ ⟨rfl, rfl, trivial⟩ ?_
  · exact ⟨by omega, by rfl⟩
  · rintro ⟨e, x⟩ σ ⟨he, hx⟩
    have hxb := fsN_b (r := r) (fun u hu => (ht u hu).2) e
    refine CJ.seq ?_
    refine CJ.seq ?_
    refine CJ.region ?_
    refine LJ.yd rfl (Yd.mvI rfl) ?_
    refine LJ.splitD rfl (Yd.lss rfl rfl) (fun h10 => ?_) (fun h10 => ?_)
    · refine LJ.nil ?_
      refine CJ.condT rfl ?_
      refine CJ.skip ?_
      refine CJ.seq ?_
      refine CJ.block ?_
      refine CJ.seq ?_
      refine CJ.region ?_
      refine LJ.yd rfl (Yd.asI rfl) ?_
      refine LJ.nil ?_
      refine CJ.seqK [0, 1, 4, 5, 6, 9, 10] Int (fun y => y = gm t r e) (fun y => [(7, vI y)]) ?_ ?_
      · refine CJ.seq ?_
        refine CJ.region ?_
        refine LJ.yd rfl (Yd.asI rfl) ?_
        refine LJ.nil ?_
        refine CJ.block ?_
        refine CJ.loopK [0, 1, 4, 5, 6, 9, 10] (Nat × Int) (fun ⟨k, y⟩ => k ≤ t.length ∧ max y (gm (t.drop k) (r.drop k) e) = gm t r e ∧ 0 ≤ y ∧ y ≤ 500) (fun ⟨k, y⟩ => [(8, vI k), (7, vI y)]) (fun ⟨k, y⟩ => t.length - k) (0, 0) ?_ ⟨rfl, rfl, trivial⟩ ?_
        · exact ⟨by omega, by have := gm_nn t r e; simp; omega, by omega, by omega⟩
        · rintro ⟨k, y⟩ σ ⟨hk, hy, hy0, hy1⟩
          refine CJ.seq ?_
          refine CJ.seq ?_
          refine CJ.region ?_
          refine LJ.yd rfl (Yd.mvI rfl) ?_
          refine LJ.yd rfl (Yd.mvS rfl) ?_
          refine LJ.yd rfl (Yd.len rfl) ?_
          refine LJ.splitD rfl (Yd.lss rfl rfl) (fun h16 => ?_) (fun h16 => ?_)
          · refine LJ.nil ?_
            refine CJ.condT rfl ?_
            refine CJ.skip ?_
            refine CJ.seq ?_
            refine CJ.block ?_
            refine CJ.seq ?_
            refine CJ.region ?_
            refine LJ.yd rfl (Yd.mvS rfl) ?_
            refine LJ.yd rfl (Yd.mvI rfl) ?_
            refine LJ.idxA rfl hg rfl rfl (by omega) (by first | rfl | omega | (simp; done) | (simp; omega) | (simp [upN_len]; omega) | (simp [idxBy_len]; omega) | (simp [marks_len]; omega) | (simp [upN_len]; done) | (simp [idxBy_len]; done) | (simp [marks_len]; done) | (simp at *; omega)) (fun ib21 io21 ia21 ir21 => ?_)
            refine LJ.ldA 0 (fun u => vI u) (fun _ => rfl) ir21 rfl rfl rfl (by first | rfl | omega | (simp; done) | (simp; omega) | (simp [upN_len]; omega) | (simp [idxBy_len]; omega) | (simp [marks_len]; omega) | (simp [upN_len]; done) | (simp [idxBy_len]; done) | (simp [marks_len]; done) | (simp at *; omega)) (fun u22 hu22 => ?_)
            try simp only [Int.toNat_natCast] at hu22
            refine LJ.yd rfl (Yd.mvI rfl) ?_
            refine LJ.splitD rfl (Yd.eql rfl rfl) (fun h24 => ?_) (fun h24 => ?_)
            · refine LJ.nil ?_
              refine CJ.condT rfl ?_
              refine CJ.region ?_
              refine LJ.yd rfl (Yd.mvI rfl) ?_
              refine LJ.yd rfl (Yd.mvS rfl) ?_
              refine LJ.yd rfl (Yd.mvI rfl) ?_
              refine LJ.idxA rfl hl rfl rfl (by omega) (by first | rfl | omega | (simp; done) | (simp; omega) | (simp [upN_len]; omega) | (simp [idxBy_len]; omega) | (simp [marks_len]; omega) | (simp [upN_len]; done) | (simp [idxBy_len]; done) | (simp [marks_len]; done) | (simp at *; omega)) (fun ib28 io28 ia28 ir28 => ?_)
              refine LJ.ldA 0 (fun u => vI u) (fun _ => rfl) ir28 rfl rfl rfl (by first | rfl | omega | (simp; done) | (simp; omega) | (simp [upN_len]; omega) | (simp [idxBy_len]; omega) | (simp [marks_len]; omega) | (simp [upN_len]; done) | (simp [idxBy_len]; done) | (simp [marks_len]; done) | (simp at *; omega)) (fun u29 hu29 => ?_)
              try simp only [Int.toNat_natCast] at hu29
              have hf29 := ht u29 (List.mem_of_getElem? hu29)
              refine LJ.yd rfl (Yd.max' rfl rfl) ?_
              refine LJ.yd rfl (Yd.asI rfl) ?_
              refine LJ.nil ?_
              refine CJ.region ?_
              refine LJ.yd rfl (Yd.mvI rfl) ?_
              refine LJ.yd rfl (Yd.add rfl rfl (by unfold I64; omega)) ?_
              refine LJ.yd rfl (Yd.asI rfl) ?_
              refine LJ.nil ?_
              refine ⟨(k + 1, _), ?_, ⟨rfl, rfl, rfl, rfl, rfl, rfl, rfl, trivial⟩, ⟨rfl, rfl, trivial⟩, Ent.refl _, ?_⟩
              · refine ⟨by omega, ?_⟩
                obtain ⟨u, hu⟩ := someC (l := t) (j := k) (by omega)
                rw [dropC hu, dropC hu22, gm] at hy
                first
                  | (rw [if_pos h24] at hy
                     have e29 : u29 = u := by rw [hu] at hu29; exact (Option.some.inj hu29).symm
                     rw [e29] at hf29 ⊢
                     exact ⟨by omega, by omega, by omega⟩)
                  | (rw [if_neg h24] at hy; exact ⟨hy, hy0, hy1⟩)
              · first | omega | (dsimp only; omega) | (simp only []; omega)
            · refine LJ.nil ?_
              refine CJ.condF rfl ?_
              refine CJ.skip ?_
              refine CJ.region ?_
              refine LJ.yd rfl (Yd.mvI rfl) ?_
              refine LJ.yd rfl (Yd.add rfl rfl (by unfold I64; omega)) ?_
              refine LJ.yd rfl (Yd.asI rfl) ?_
              refine LJ.nil ?_
              refine ⟨(k + 1, _), ?_, ⟨rfl, rfl, rfl, rfl, rfl, rfl, rfl, trivial⟩, ⟨rfl, rfl, trivial⟩, Ent.refl _, ?_⟩
              · refine ⟨by omega, ?_⟩
                obtain ⟨u, hu⟩ := someC (l := t) (j := k) (by omega)
                rw [dropC hu, dropC hu22, gm] at hy
                first
                  | (rw [if_pos h24] at hy
                     have e29 : u29 = u := by rw [hu] at hu29; exact (Option.some.inj hu29).symm
                     rw [e29] at hf29 ⊢
                     exact ⟨by omega, by omega, by omega⟩)
                  | (rw [if_neg h24] at hy; exact ⟨hy, hy0, hy1⟩)
              · first | omega | (dsimp only; omega) | (simp only []; omega)
          · refine LJ.nil ?_
            refine CJ.condF rfl ?_
            refine CJ.exit ?_
            refine ⟨y, ?_, ?_, ?_, Ent.refl _⟩
            · rw [List.drop_of_length_le (by omega)] at hy; simp only [gm] at hy; omega
            · exact ⟨rfl, rfl, rfl, rfl, rfl, rfl, rfl, trivial⟩
            · exact ⟨rfl, trivial⟩
      · rintro y σ hyy
        have hg0 := gm_nn t r e
        have hg1 := gm_le (t := t) (r := r) (g := e) (B := 500) (by omega) (fun u hu => (ht u hu).2)
        refine CJ.region ?_
        refine LJ.yd rfl (Yd.mvI rfl) ?_
        refine LJ.yd rfl (Yd.mvI rfl) ?_
        refine LJ.yd rfl (Yd.add rfl rfl (by unfold I64; omega)) ?_
        refine LJ.yd rfl (Yd.asI rfl) ?_
        refine LJ.nil ?_
        refine CJ.region ?_
        refine LJ.yd rfl (Yd.mvI rfl) ?_
        refine LJ.yd rfl (Yd.add rfl rfl (by unfold I64; omega)) ?_
        refine LJ.yd rfl (Yd.asI rfl) ?_
        refine LJ.nil ?_
        refine ⟨(e + 1, _), ?_, ⟨rfl, rfl, rfl, trivial⟩, ⟨rfl, rfl, trivial⟩, Ent.refl _, ?_⟩
        · refine ⟨by omega, ?_⟩
          simp only [fsN]; omega
        · first | omega | (dsimp only; omega) | (simp only []; omega)
    · refine LJ.nil ?_
      refine CJ.condF rfl ?_
      refine CJ.exit ?_
      refine CJ.seq ?_
      refine CJ.region ?_
      refine LJ.yd rfl (Yd.mvI rfl) ?_
      refine LJ.yd rfl (Yd.asI rfl) ?_
      refine LJ.nil ?_
      refine CJ.ret ?_
      refine Fin.V (Res.one (ResV.tmp (v := .int _ _) rfl)) ?_
      rw [hx]; congr 1; congr 1; omega
theorem FireTimeS_ok {A : Amb} {v w : Value} {t r : List Int} {room : Int} (hl : RdL encI 1 A.h v t) (hg : RdL encI 1 A.h w r) : Ctr Try.prog 30 #[v, w, vI room] A [] (Val (vI (ftR t r room))) := by
  obtain ⟨la, lc, rfl, hlb, hl⟩ := hl.un
  obtain ⟨ga, gc, rfl, hgb, hg⟩ := hg.un
  refine Ctr.body (args := [_, _, _]) Try.func30 rfl Try.ntmps30 Try.results30 (by simp) ?_
  refine CJ.seq ?_
  refine CJ.region ?_
  refine LJ.yd rfl (Yd.asI rfl) ?_
  refine LJ.nil ?_
  refine CJ.seq ?_
  refine CJ.seq ?_
  refine CJ.region ?_
  refine LJ.yd rfl (Yd.mvS rfl) ?_
  refine LJ.yd rfl (Yd.mvS rfl) ?_
  refine LJ.yd rfl (Yd.mvI rfl) ?_
  refine LJ.callB rfl (fun k hk dk => validGroups_ok (RdRow.up hl) (RdRow.up hg)) (fun h10 => ?_) (fun h10 => ?_)
  · refine LJ.yd rfl (Yd.not rfl) ?_
    refine LJ.nil ?_
    refine CJ.condF rfl ?_
    refine CJ.skip ?_
    refine CJ.seq ?_
    refine CJ.region ?_
    refine LJ.yd rfl (Yd.mvS rfl) ?_
    refine LJ.yd rfl (Yd.mvS rfl) ?_
    refine LJ.callV rfl (fun k hk dk => fireTimeS_ok (RdRow.up hl) (RdRow.up hg) (grpOk_iff.1 h10).1.2 (grpOk_iff.1 h10).2.1.1) ?_
    refine LJ.yd rfl (Yd.asI rfl) ?_
    refine LJ.nil ?_
    refine CJ.ret ?_
    refine Fin.V (Res.one (ResV.tmp (v := .int _ _) rfl)) ?_
    unfold ftR; simp [h10]
  · refine LJ.yd rfl (Yd.not rfl) ?_
    refine LJ.nil ?_
    refine CJ.condT rfl ?_
    refine CJ.seq ?_
    refine CJ.region ?_
    refine LJ.yd rfl (Yd.asI rfl) ?_
    refine LJ.nil ?_
    refine CJ.ret ?_
    refine Fin.V (Res.one (ResV.tmp (v := .int _ _) rfl)) ?_
    unfold ftR; simp [h10]
theorem mapU_get {f : Int → Int} {n i : Nat} (h : i < n) : ((upN n).map f)[i]? = some (f i) := by simp [upN, h]
theorem mapU_len (f : Int → Int) (n : Nat) : ((upN n).map f).length = n := by simp [upN_len]
theorem mapU_set {f g : Int → Int} {n : Nat} {b : Int} (hb : 0 ≤ b) (hbn : b < n) (he : ∀ c, c ≠ b → g c = f c) : ((upN n).map f).set b.toNat (g b) = (upN n).map g := by
  apply List.ext_getElem?
  intro i
  rw [List.getElem?_set]
  by_cases h : i < n
  · rw [mapU_get h, mapU_get h]
    by_cases e : b.toNat = i
    · rw [if_pos e, if_pos (by rw [mapU_len]; omega), show ((i : Nat) : Int) = b by omega]
    · rw [if_neg e, he i (by omega)]
  · rw [if_neg (by omega), List.getElem?_eq_none (by rw [mapU_len]; omega), List.getElem?_eq_none (by rw [mapU_len]; omega)]
theorem FireTimeI_ok {A : Amb} {v w : Value} {t r : List Int} {room : Int} (hl : RdL encI 1 A.h v t) (hg : RdL encI 1 A.h w r) : Ctr Try.prog 29 #[v, w, vI room] A [] (Val (vI (ftR t r room))) := by
  obtain ⟨la, lc, rfl, hlb, hl⟩ := hl.un
  obtain ⟨ga, gc, rfl, hgb, hg⟩ := hg.un
  refine Ctr.body (args := [_, _, _]) Try.func29 rfl Try.ntmps29 Try.results29 (by simp) ?_
  refine CJ.seq ?_
  refine CJ.region ?_
  refine LJ.yd rfl (Yd.asI rfl) ?_
  refine LJ.nil ?_
  refine CJ.seq ?_
  refine CJ.seq ?_
  refine CJ.region ?_
  refine LJ.yd rfl (Yd.mvS rfl) ?_
  refine LJ.callB rfl (fun k hk dk => validTimes_ok (RdRow.up hl)) (fun h15 => ?_) (fun h15 => ?_)
  · refine LJ.yd rfl (Yd.not rfl) ?_
    refine LJ.yd rfl (Yd.mvB rfl) ?_
    refine LJ.gT rfl ?_
    refine LJ.yd rfl (Yd.mvS rfl) ?_
    refine LJ.gT rfl ?_
    refine LJ.yd rfl (Yd.len rfl) ?_
    refine LJ.gT rfl ?_
    refine LJ.yd rfl (Yd.mvS rfl) ?_
    refine LJ.gT rfl ?_
    refine LJ.yd rfl (Yd.len rfl) ?_
    refine LJ.gT rfl ?_
    refine LJ.splitN rfl (Yd.neq rfl rfl) (fun h22 => ?_) (fun h22 => ?_)
    · refine LJ.yd rfl (Yd.pickFB rfl rfl) ?_
      refine LJ.yd rfl (Yd.mvB rfl) ?_
      refine LJ.gF rfl rfl ?_
      refine LJ.gF rfl rfl ?_
      refine LJ.yd rfl (Yd.pickTB rfl rfl) ?_
      refine LJ.yd rfl (Yd.mvB rfl) ?_
      refine LJ.gF rfl rfl ?_
      refine LJ.gF rfl rfl ?_
      refine LJ.yd rfl (Yd.pickTB rfl rfl) ?_
      refine LJ.nil ?_
      refine CJ.condT rfl ?_
      refine CJ.seq ?_
      refine CJ.region ?_
      refine LJ.yd rfl (Yd.asI rfl) ?_
      refine LJ.nil ?_
      refine CJ.ret ?_
      refine Fin.V (Res.one (ResV.tmp (v := .int _ _) rfl)) ?_
      refine congrArg vI (Eq.symm ?_)
      unfold ftR
      first
        | (rw [if_neg (fun h => nomatch (show true = false from (timesOk_iff.2 (grpOk_iff.1 h).1).symm.trans h15))]; done)
        | (rw [if_neg (fun h => h22 (by have := (grpOk_iff.1 h).2.1; omega))]; done)
        | (rw [if_neg (fun h => absurd (grpOk_iff.1 h).2.1.2 (by omega))]; done)
        | (rw [if_neg (fun h => absurd ((grpOk_iff.1 h).2.2 u38 (List.mem_of_getElem? hu38)) (by omega))]; done)
        | (rw [if_neg (fun h => ?_)]
           have h1 := ((grpOk_iff.1 h).2.2 u38 (List.mem_of_getElem? hu38)).2.2
           rw [← List.take_append_drop (k + 1) r, cntI_append, takeC hu38, cntI_append, cntI, if_pos rfl, e48] at h1
           have h2 := cntI_le u38 (r.drop (k + 1))
           simp only [cntI] at h1
           omega)
        | (rw [List.take_of_length_le (by omega)] at hin hcn
           rw [if_pos (grpOk_iff.2 ⟨hto, by omega, fun g hg => ⟨(hin g hg).1, (hin g hg).2, hcn g⟩⟩), hx]; congr 1; omega)
    · refine LJ.yd rfl (Yd.pickFB rfl rfl) ?_
      refine LJ.yd rfl (Yd.mvB rfl) ?_
      refine LJ.gT rfl ?_
      refine LJ.yd rfl (Yd.mvI rfl) ?_
      refine LJ.gT rfl ?_
      refine LJ.splitD rfl (Yd.lss rfl rfl) (fun h26 => ?_) (fun h26 => ?_)
      · refine LJ.yd rfl (Yd.pickFB rfl rfl) ?_
        refine LJ.yd rfl (Yd.mvB rfl) ?_
        refine LJ.gF rfl rfl ?_
        refine LJ.gF rfl rfl ?_
        refine LJ.yd rfl (Yd.pickTB rfl rfl) ?_
        refine LJ.nil ?_
        refine CJ.condT rfl ?_
        refine CJ.seq ?_
        refine CJ.region ?_
        refine LJ.yd rfl (Yd.asI rfl) ?_
        refine LJ.nil ?_
        refine CJ.ret ?_
        refine Fin.V (Res.one (ResV.tmp (v := .int _ _) rfl)) ?_
        refine congrArg vI (Eq.symm ?_)
        unfold ftR
        first
          | (rw [if_neg (fun h => nomatch (show true = false from (timesOk_iff.2 (grpOk_iff.1 h).1).symm.trans h15))]; done)
          | (rw [if_neg (fun h => h22 (by have := (grpOk_iff.1 h).2.1; omega))]; done)
          | (rw [if_neg (fun h => absurd (grpOk_iff.1 h).2.1.2 (by omega))]; done)
          | (rw [if_neg (fun h => absurd ((grpOk_iff.1 h).2.2 u38 (List.mem_of_getElem? hu38)) (by omega))]; done)
          | (rw [if_neg (fun h => ?_)]
             have h1 := ((grpOk_iff.1 h).2.2 u38 (List.mem_of_getElem? hu38)).2.2
             rw [← List.take_append_drop (k + 1) r, cntI_append, takeC hu38, cntI_append, cntI, if_pos rfl, e48] at h1
             have h2 := cntI_le u38 (r.drop (k + 1))
             simp only [cntI] at h1
             omega)
          | (rw [List.take_of_length_le (by omega)] at hin hcn
             rw [if_pos (grpOk_iff.2 ⟨hto, by omega, fun g hg => ⟨(hin g hg).1, (hin g hg).2, hcn g⟩⟩), hx]; congr 1; omega)
      · refine LJ.yd rfl (Yd.pickFB rfl rfl) ?_
        refine LJ.yd rfl (Yd.mvB rfl) ?_
        refine LJ.gT rfl ?_
        refine LJ.yd rfl (Yd.mvI rfl) ?_
        refine LJ.gT rfl ?_
        refine LJ.splitD rfl (Yd.gtr rfl rfl) (fun h30 => ?_) (fun h30 => ?_)
        · refine LJ.yd rfl (Yd.pickFB rfl rfl) ?_
          refine LJ.nil ?_
          refine CJ.condT rfl ?_
          refine CJ.seq ?_
          refine CJ.region ?_
          refine LJ.yd rfl (Yd.asI rfl) ?_
          refine LJ.nil ?_
          refine CJ.ret ?_
          refine Fin.V (Res.one (ResV.tmp (v := .int _ _) rfl)) ?_
          refine congrArg vI (Eq.symm ?_)
          unfold ftR
          first
            | (rw [if_neg (fun h => nomatch (show true = false from (timesOk_iff.2 (grpOk_iff.1 h).1).symm.trans h15))]; done)
            | (rw [if_neg (fun h => h22 (by have := (grpOk_iff.1 h).2.1; omega))]; done)
            | (rw [if_neg (fun h => absurd (grpOk_iff.1 h).2.1.2 (by omega))]; done)
            | (rw [if_neg (fun h => absurd ((grpOk_iff.1 h).2.2 u38 (List.mem_of_getElem? hu38)) (by omega))]; done)
            | (rw [if_neg (fun h => ?_)]
               have h1 := ((grpOk_iff.1 h).2.2 u38 (List.mem_of_getElem? hu38)).2.2
               rw [← List.take_append_drop (k + 1) r, cntI_append, takeC hu38, cntI_append, cntI, if_pos rfl, e48] at h1
               have h2 := cntI_le u38 (r.drop (k + 1))
               simp only [cntI] at h1
               omega)
            | (rw [List.take_of_length_le (by omega)] at hin hcn
               rw [if_pos (grpOk_iff.2 ⟨hto, by omega, fun g hg => ⟨(hin g hg).1, (hin g hg).2, hcn g⟩⟩), hx]; congr 1; omega)
        · refine LJ.yd rfl (Yd.pickFB rfl rfl) ?_
          refine LJ.nil ?_
          refine CJ.condF rfl ?_
          refine CJ.skip ?_
          refine CJ.seq ?_
          have hto := timesOk_iff.1 h15
          refine CJ.region ?_
          refine LJ.alloc ((List.replicate 16 (0 : Int)).map fun u => vI u) rfl rfl (fun b1 => ?_)
          refine LJ.norm [_] rfl ?_
          refine LJ.alloc ((List.replicate 16 (0 : Int)).map fun u => vI u) rfl rfl (fun b2 => ?_)
          refine LJ.norm [_, _] rfl ?_
          refine LJ.nil ?_
          refine CJ.seq ?_
          refine CJ.seq ?_
          refine CJ.region ?_
          refine LJ.yd rfl (Yd.mvS rfl) ?_
          refine LJ.yd rfl (Yd.len rfl) ?_
          refine LJ.yd rfl (Yd.mvI rfl) ?_
          refine LJ.nil ?_
          refine CJ.block ?_
          refine CJ.norm [Cel b1 _ (((upN 16).map (fun g => cntI g (r.take 0))).map fun u => vI u), Cel b2 _ (((upN 16).map (fun g => gm (t.take 0) (r.take 0) g)).map fun u => vI u)] rfl ?_
          refine CJ.loopF [0, 2, 7, 8, 32, 33] Nat (fun k => k ≤ r.length ∧ (∀ g ∈ r.take k, 0 ≤ g ∧ g ≤ 15) ∧ ∀ g, cntI g (r.take k) ≤ room) (fun k => [(34, vI k)]) (fun k => [Cel b1 62 (((upN 16).map (fun g => cntI g (r.take k))).map fun u => vI u), Cel b2 62 (((upN 16).map (fun g => gm (t.take k) (r.take k) g)).map fun u => vI u)]) (fun k => r.length - k) (0) [] [] [0, 1] rfl rfl rfl ?_ ⟨rfl, trivial⟩ ?_
          · exact ⟨by omega, by simp, fun g => by simp [cntI]; omega⟩
          · rintro k σ ⟨hk, hin, hcn⟩
            refine CJ.norm [_, _] rfl ?_
            refine CJ.seq ?_
            refine CJ.region ?_
            refine LJ.splitD rfl (Yd.lss rfl rfl) (fun h35 => ?_) (fun h35 => ?_)
            · refine LJ.nil ?_
              refine CJ.seq ?_
              refine CJ.condT rfl ?_
              refine CJ.skip ?_
              refine CJ.seq ?_
              refine CJ.block ?_
              refine CJ.seq ?_
              refine CJ.region ?_
              refine LJ.yd rfl (Yd.mvI rfl) ?_
              refine LJ.idxA rfl hg rfl rfl (by omega) (by first | rfl | omega | (simp; done) | (simp; omega) | (simp [upN_len]; omega) | (simp [idxBy_len]; omega) | (simp [marks_len]; omega) | (simp [upN_len]; done) | (simp [idxBy_len]; done) | (simp [marks_len]; done) | (simp at *; omega)) (fun ib37 io37 ia37 ir37 => ?_)
              refine LJ.ldA 0 (fun u => vI u) (fun _ => rfl) ir37 rfl rfl rfl (by first | rfl | omega | (simp; done) | (simp; omega) | (simp [upN_len]; omega) | (simp [idxBy_len]; omega) | (simp [marks_len]; omega) | (simp [upN_len]; done) | (simp [idxBy_len]; done) | (simp [marks_len]; done) | (simp at *; omega)) (fun u38 hu38 => ?_)
              try simp only [Int.toNat_natCast] at hu38
              refine LJ.yd rfl (Yd.asI rfl) ?_
              refine LJ.yd rfl (Yd.asI rfl) ?_
              refine LJ.nil ?_
              refine CJ.seq ?_
              refine CJ.seq ?_
              refine CJ.region ?_
              refine LJ.yd rfl (Yd.mvI rfl) ?_
              refine LJ.splitD rfl (Yd.lss rfl rfl) (fun h40 => ?_) (fun h40 => ?_)
              · refine LJ.yd rfl (Yd.mvB rfl) ?_
                refine LJ.gF rfl rfl ?_
                refine LJ.gF rfl rfl ?_
                refine LJ.yd rfl (Yd.pickTB rfl rfl) ?_
                refine LJ.yd rfl (Yd.mvB rfl) ?_
                refine LJ.gF rfl rfl ?_
                refine LJ.gF rfl rfl ?_
                refine LJ.gF rfl rfl ?_
                refine LJ.gF rfl rfl ?_
                refine LJ.gF rfl rfl ?_
                refine LJ.yd rfl (Yd.pickTB rfl rfl) ?_
                refine LJ.nil ?_
                refine CJ.condT rfl ?_
                refine CJ.seq ?_
                refine CJ.region ?_
                refine LJ.yd rfl (Yd.asI rfl) ?_
                refine LJ.nil ?_
                refine CJ.ret ?_
                refine Fin.V (Res.one (ResV.tmp (v := .int _ _) rfl)) ?_
                refine congrArg vI (Eq.symm ?_)
                unfold ftR
                first
                  | (rw [if_neg (fun h => nomatch (show true = false from (timesOk_iff.2 (grpOk_iff.1 h).1).symm.trans h15))]; done)
                  | (rw [if_neg (fun h => h22 (by have := (grpOk_iff.1 h).2.1; omega))]; done)
                  | (rw [if_neg (fun h => absurd (grpOk_iff.1 h).2.1.2 (by omega))]; done)
                  | (rw [if_neg (fun h => absurd ((grpOk_iff.1 h).2.2 u38 (List.mem_of_getElem? hu38)) (by omega))]; done)
                  | (rw [if_neg (fun h => ?_)]
                     have h1 := ((grpOk_iff.1 h).2.2 u38 (List.mem_of_getElem? hu38)).2.2
                     rw [← List.take_append_drop (k + 1) r, cntI_append, takeC hu38, cntI_append, cntI, if_pos rfl, e48] at h1
                     have h2 := cntI_le u38 (r.drop (k + 1))
                     simp only [cntI] at h1
                     omega)
                  | (rw [List.take_of_length_le (by omega)] at hin hcn
                     rw [if_pos (grpOk_iff.2 ⟨hto, by omega, fun g hg => ⟨(hin g hg).1, (hin g hg).2, hcn g⟩⟩), hx]; congr 1; omega)
              · refine LJ.yd rfl (Yd.mvB rfl) ?_
                refine LJ.gT rfl ?_
                refine LJ.yd rfl (Yd.mvI rfl) ?_
                refine LJ.gT rfl ?_
                refine LJ.splitD rfl (Yd.geq rfl rfl) (fun h43 => ?_) (fun h43 => ?_)
                · refine LJ.yd rfl (Yd.pickFB rfl rfl) ?_
                  refine LJ.yd rfl (Yd.mvB rfl) ?_
                  refine LJ.gF rfl rfl ?_
                  refine LJ.gF rfl rfl ?_
                  refine LJ.gF rfl rfl ?_
                  refine LJ.gF rfl rfl ?_
                  refine LJ.gF rfl rfl ?_
                  refine LJ.yd rfl (Yd.pickTB rfl rfl) ?_
                  refine LJ.nil ?_
                  refine CJ.condT rfl ?_
                  refine CJ.seq ?_
                  refine CJ.region ?_
                  refine LJ.yd rfl (Yd.asI rfl) ?_
                  refine LJ.nil ?_
                  refine CJ.ret ?_
                  refine Fin.V (Res.one (ResV.tmp (v := .int _ _) rfl)) ?_
                  refine congrArg vI (Eq.symm ?_)
                  unfold ftR
                  first
                    | (rw [if_neg (fun h => nomatch (show true = false from (timesOk_iff.2 (grpOk_iff.1 h).1).symm.trans h15))]; done)
                    | (rw [if_neg (fun h => h22 (by have := (grpOk_iff.1 h).2.1; omega))]; done)
                    | (rw [if_neg (fun h => absurd (grpOk_iff.1 h).2.1.2 (by omega))]; done)
                    | (rw [if_neg (fun h => absurd ((grpOk_iff.1 h).2.2 u38 (List.mem_of_getElem? hu38)) (by omega))]; done)
                    | (rw [if_neg (fun h => ?_)]
                       have h1 := ((grpOk_iff.1 h).2.2 u38 (List.mem_of_getElem? hu38)).2.2
                       rw [← List.take_append_drop (k + 1) r, cntI_append, takeC hu38, cntI_append, cntI, if_pos rfl, e48] at h1
                       have h2 := cntI_le u38 (r.drop (k + 1))
                       simp only [cntI] at h1
                       omega)
                    | (rw [List.take_of_length_le (by omega)] at hin hcn
                       rw [if_pos (grpOk_iff.2 ⟨hto, by omega, fun g hg => ⟨(hin g hg).1, (hin g hg).2, hcn g⟩⟩), hx]; congr 1; omega)
                · refine LJ.yd rfl (Yd.pickFB rfl rfl) ?_
                  refine LJ.yd rfl (Yd.mvB rfl) ?_
                  refine LJ.gT rfl ?_
                  refine LJ.yd rfl (Yd.mvI rfl) ?_
                  refine LJ.gT rfl ?_
                  refine LJ.yd rfl (Yd.idxArr rfl rfl (by omega) (by omega)) ?_
                  refine LJ.gT rfl ?_
                  refine LJ.ldM (e1 := fun u => vI u) 0 rfl rfl rfl rfl (by first | rfl | omega | (simp; done) | (simp; omega) | (simp [upN_len]; omega) | (simp [idxBy_len]; omega) | (simp [marks_len]; omega) | (simp [upN_len]; done) | (simp [idxBy_len]; done) | (simp [marks_len]; done) | (simp at *; omega)) (fun u48 hu48 => ?_)
                  try simp only [Int.toNat_natCast] at hu48
                  rw [mapU_get (by omega)] at hu48
                  have e48 := Option.some.inj hu48
                  rw [show ((u38.toNat : Nat) : Int) = u38 by omega] at e48
                  refine LJ.gT rfl ?_
                  refine LJ.yd rfl (Yd.mvI rfl) ?_
                  refine LJ.gT rfl ?_
                  refine LJ.splitD rfl (Yd.eql rfl rfl) (fun h50 => ?_) (fun h50 => ?_)
                  · refine LJ.yd rfl (Yd.pickFB rfl rfl) ?_
                    refine LJ.nil ?_
                    refine CJ.condT rfl ?_
                    refine CJ.seq ?_
                    refine CJ.region ?_
                    refine LJ.yd rfl (Yd.asI rfl) ?_
                    refine LJ.nil ?_
                    refine CJ.ret ?_
                    refine Fin.V (Res.one (ResV.tmp (v := .int _ _) rfl)) ?_
                    refine congrArg vI (Eq.symm ?_)
                    unfold ftR
                    first
                      | (rw [if_neg (fun h => nomatch (show true = false from (timesOk_iff.2 (grpOk_iff.1 h).1).symm.trans h15))]; done)
                      | (rw [if_neg (fun h => h22 (by have := (grpOk_iff.1 h).2.1; omega))]; done)
                      | (rw [if_neg (fun h => absurd (grpOk_iff.1 h).2.1.2 (by omega))]; done)
                      | (rw [if_neg (fun h => absurd ((grpOk_iff.1 h).2.2 u38 (List.mem_of_getElem? hu38)) (by omega))]; done)
                      | (rw [if_neg (fun h => ?_)]
                         have h1 := ((grpOk_iff.1 h).2.2 u38 (List.mem_of_getElem? hu38)).2.2
                         rw [← List.take_append_drop (k + 1) r, cntI_append, takeC hu38, cntI_append, cntI, if_pos rfl, e48] at h1
                         have h2 := cntI_le u38 (r.drop (k + 1))
                         simp only [cntI] at h1
                         omega)
                      | (rw [List.take_of_length_le (by omega)] at hin hcn
                         rw [if_pos (grpOk_iff.2 ⟨hto, by omega, fun g hg => ⟨(hin g hg).1, (hin g hg).2, hcn g⟩⟩), hx]; congr 1; omega)
                  · refine LJ.yd rfl (Yd.pickFB rfl rfl) ?_
                    refine LJ.nil ?_
                    refine CJ.condF rfl ?_
                    refine CJ.skip ?_
                    refine CJ.seq ?_
                    have hc39 := cntI_le u38 (r.take k)
                    have hrl : (r.take k).length = k := by simp; omega
                    refine CJ.region ?_
                    refine LJ.yd rfl (Yd.mvI rfl) ?_
                    refine LJ.yd rfl (Yd.idxArr rfl rfl (by omega) (by omega)) ?_
                    refine LJ.ldM (e1 := fun u => vI u) 0 rfl rfl rfl rfl (by first | rfl | omega | (simp; done) | (simp; omega) | (simp [upN_len]; omega) | (simp [idxBy_len]; omega) | (simp [marks_len]; omega) | (simp [upN_len]; done) | (simp [idxBy_len]; done) | (simp [marks_len]; done) | (simp at *; omega)) (fun u54 hu54 => ?_)
                    try simp only [Int.toNat_natCast] at hu54
                    rw [mapU_get (by omega)] at hu54
                    have e54 := Option.some.inj hu54
                    rw [show ((u38.toNat : Nat) : Int) = u38 by omega] at e54
                    refine LJ.yd rfl (Yd.add rfl rfl (by unfold I64; omega)) ?_
                    refine LJ.yd rfl (Yd.idxArr rfl rfl (by omega) (by omega)) ?_
                    refine LJ.op rfl (OpR.stM (e1 := fun u => vI u) 0 (fun _ => rfl) (fun _ => rfl) rfl rfl rfl rfl (by first | rfl | omega | (simp; done) | (simp; omega) | (simp [upN_len]; omega) | (simp [idxBy_len]; omega) | (simp [marks_len]; omega) | (simp [upN_len]; done) | (simp [idxBy_len]; done) | (simp [marks_len]; done) | (simp at *; omega))) ?_
                    rintro _ _ ⟨rfl, rfl⟩
                    refine LJ.norm [_, _] rfl ?_
                    refine LJ.nil ?_
                    rw [show ((upN 16).map (fun g => cntI g (r.take k))).set u38.toNat (u54 + 1) = (upN 16).map (fun g => cntI g (r.take (k + 1))) by
                      rw [show u54 + 1 = cntI u38 (r.take (k + 1)) by rw [takeC hu38, cntI_append, ← e54]; simp [cntI]]
                      exact mapU_set (f := fun g => cntI g (r.take k)) (g := fun g => cntI g (r.take (k + 1))) (by omega) (by omega) (fun c hc => by
                        rw [takeC hu38, cntI_append, cntI, if_neg (Ne.symm hc), cntI]; omega)]
                    refine CJ.regionD [0] [1] (by kernel_rfl) rfl ?_
                    refine DJ.norm [_] [_] rfl rfl ?_
                    refine DJ.yd 0 rfl (by kernel_rfl) (by kernel_rfl) (by kernel_rfl) rfl rfl (Yd.mvI rfl) ?_
                    refine DJ.yd 1 rfl (by kernel_rfl) (by kernel_rfl) (by kernel_rfl) rfl rfl (Yd.mvI rfl) ?_
                    refine DJ.yd 2 rfl (by kernel_rfl) (by kernel_rfl) (by kernel_rfl) rfl rfl (Yd.idxArr rfl rfl (by omega) (by omega)) ?_
                    refine DJ.yd 4 rfl (by kernel_rfl) (by kernel_rfl) (by kernel_rfl) rfl rfl (Yd.mvS rfl) ?_
                    refine DJ.yd 5 rfl (by kernel_rfl) (by kernel_rfl) (by kernel_rfl) rfl rfl (Yd.mvI rfl) ?_
                    refine DJ.idxA 6 rfl (by kernel_rfl) (by kernel_rfl) (by kernel_rfl) rfl rfl hl rfl rfl (by omega) (by first | rfl | omega | (simp; done) | (simp; omega) | (simp [upN_len]; omega) | (simp [idxBy_len]; omega) | (simp [marks_len]; omega) | (simp [upN_len]; done) | (simp [idxBy_len]; done) | (simp [marks_len]; done) | (simp at *; omega)) (fun ib63 io63 ia63 ir63 => ?_)
                    refine DJ.ldA 7 rfl (by kernel_rfl) (by kernel_rfl) (by kernel_rfl) rfl rfl 0 (fun u => vI u) (fun _ => rfl) ir63 rfl rfl (by first | rfl | omega | (simp; done) | (simp; omega) | (simp [upN_len]; omega) | (simp [idxBy_len]; omega) | (simp [marks_len]; omega) | (simp [upN_len]; done) | (simp [idxBy_len]; done) | (simp [marks_len]; done) | (simp at *; omega)) (fun u64 hu64 => ?_)
                    try simp only [Int.toNat_natCast] at hu64
                    have hf64 := hto.2 u64 (List.mem_of_getElem? hu64)
                    refine DJ.one (i := 3) (by kernel_rfl) ?_
                    refine DO.ldM (e1 := fun u => vI u) rfl rfl rfl 0 rfl rfl rfl (by first | rfl | omega | (simp; done) | (simp; omega) | (simp [upN_len]; omega) | (simp [idxBy_len]; omega) | (simp [marks_len]; omega) | (simp [upN_len]; done) | (simp [idxBy_len]; done) | (simp [marks_len]; done) | (simp at *; omega)) (fun u60 hu60 => ?_)
                    try simp only [Int.toNat_natCast] at hu60
                    rw [mapU_get (by omega)] at hu60
                    have e60 := Option.some.inj hu60
                    rw [show ((u38.toNat : Nat) : Int) = u38 by omega] at e60
                    refine DJ.yd 8 rfl (by kernel_rfl) (by kernel_rfl) (by kernel_rfl) rfl rfl (Yd.max' rfl rfl) ?_
                    refine DJ.yd 9 rfl (by kernel_rfl) (by kernel_rfl) (by kernel_rfl) rfl rfl (Yd.idxArr rfl rfl (by omega) (by omega)) ?_
                    refine DJ.one (i := 10) (by kernel_rfl) ?_
                    refine DO.op rfl rfl rfl (fun k0 hk0 dk0 => OpR.stM (e1 := fun u => vI u) 0 (fun _ => rfl) (fun _ => rfl) rfl rfl rfl rfl (by first | rfl | omega | (simp; done) | (simp; omega) | (simp [upN_len]; omega) | (simp [idxBy_len]; omega) | (simp [marks_len]; omega) | (simp [upN_len]; done) | (simp [idxBy_len]; done) | (simp [marks_len]; done) | (simp at *; omega))) ?_
                    rintro _ _ ⟨rfl, rfl⟩
                    refine DJ.norm [_] [_] rfl rfl ?_
                    refine DJ.done (by kernel_rfl) ?_
                    rw [show ((upN 16).map (fun g => gm (t.take k) (r.take k) g)).set u38.toNat (max u60 u64) = (upN 16).map (fun g => gm (t.take (k + 1)) (r.take (k + 1)) g) by
                      rw [show max u60 u64 = gm (t.take (k + 1)) (r.take (k + 1)) u38 by rw [takeC hu38, takeC hu64, gm_snoc (by simp; omega) (by omega), if_pos rfl, e60]]
                      exact mapU_set (f := fun g => gm (t.take k) (r.take k) g) (g := fun g => gm (t.take (k + 1)) (r.take (k + 1)) g) (by omega) (by omega) (fun c hc => by
                        rw [takeC hu38, takeC hu64, gm_snoc (by simp; omega) (by omega), if_neg (Ne.symm hc)])]
                    refine CJ.region ?_
                    refine LJ.yd rfl (Yd.add rfl rfl (by unfold I64; omega)) ?_
                    refine LJ.yd rfl (Yd.mvI rfl) ?_
                    refine LJ.nil ?_
                    refine ⟨(k + 1), ?_, ⟨rfl, rfl, rfl, rfl, rfl, rfl, trivial⟩, ⟨rfl, trivial⟩, Ent.refl _, ?_⟩
                    · refine ⟨by omega, ?_⟩
                      refine ⟨fun g hg => ?_, fun g => ?_⟩
                      · rw [takeC hu38, List.mem_append, List.mem_singleton] at hg
                        rcases hg with hg | rfl
                        · exact hin g hg
                        · omega
                      · rw [takeC hu38, cntI_append, cntI, cntI]
                        have := hcn g
                        by_cases hgu : u38 = g
                        · subst hgu; rw [if_pos rfl]; omega
                        · rw [if_neg hgu]; omega
                    · first | omega | (dsimp only; omega) | (simp only []; omega)
            · refine LJ.nil ?_
              refine CJ.seq ?_
              refine CJ.condF rfl ?_
              refine CJ.exit ?_
              refine CJ.seq ?_
              refine CJ.region ?_
              refine LJ.yd rfl (Yd.asI rfl) ?_
              refine LJ.nil ?_
              refine CJ.seq ?_
              refine CJ.seq ?_
              refine CJ.region ?_
              refine LJ.yd rfl (Yd.lgM (e1 := fun u => vI u) 1 rfl rfl (by first | rfl | omega | (simp; done) | (simp; omega) | (simp [upN_len]; omega) | (simp [idxBy_len]; omega) | (simp [marks_len]; omega) | (simp [upN_len]; done) | (simp [idxBy_len]; done) | (simp [marks_len]; done) | (simp at *; omega))) ?_
              refine LJ.yd rfl (Yd.mvI rfl) ?_
              refine LJ.nil ?_
              refine CJ.block ?_
              refine CJ.loopK [68] (Nat × Int) (fun ⟨e, x⟩ => e ≤ 16 ∧ x = fsN t r e) (fun ⟨e, x⟩ => [(69, vI e), (11, vI x)]) (fun ⟨e, x⟩ => 16 - e) (0, 0) ?_ ⟨rfl, rfl, trivial⟩ ?_
              · exact ⟨by omega, by rfl⟩
              · rintro ⟨e, x⟩ σ ⟨he, hx⟩
                have hxb := fsN_b (r := r) (fun u hu => (hto.2 u hu).2) e
                refine CJ.seq ?_
                refine CJ.region ?_
                refine LJ.splitD rfl (Yd.lss rfl rfl) (fun h70 => ?_) (fun h70 => ?_)
                · refine LJ.nil ?_
                  refine CJ.seq ?_
                  refine CJ.condT rfl ?_
                  refine CJ.skip ?_
                  refine CJ.seq ?_
                  refine CJ.block ?_
                  refine CJ.seq ?_
                  refine CJ.region ?_
                  refine LJ.ixV (e1 := fun u => vI u) rfl rfl rfl (by omega) (by omega) (by first | rfl | omega | (simp; done) | (simp; omega) | (simp [upN_len]; omega) | (simp [idxBy_len]; omega) | (simp [marks_len]; omega) | (simp [upN_len]; done) | (simp [idxBy_len]; done) | (simp [marks_len]; done) | (simp at *; omega)) (fun u71 hu71 => ?_)
                  try simp only [Int.toNat_natCast] at hu71
                  rw [mapU_get (by omega)] at hu71
                  have e71 := Option.some.inj hu71
                  rw [List.take_of_length_le (by omega), List.take_of_length_le (by omega)] at e71
                  have hg0 := gm_nn t r e
                  have hg1 := gm_le (t := t) (r := r) (g := e) (B := 500) (by omega) (fun u hu => (hto.2 u hu).2)
                  refine LJ.yd rfl (Yd.asI rfl) ?_
                  refine LJ.nil ?_
                  refine CJ.region ?_
                  refine LJ.yd rfl (Yd.mvI rfl) ?_
                  refine LJ.yd rfl (Yd.mvI rfl) ?_
                  refine LJ.yd rfl (Yd.add rfl rfl (by unfold I64; omega)) ?_
                  refine LJ.yd rfl (Yd.asI rfl) ?_
                  refine LJ.nil ?_
                  refine CJ.region ?_
                  refine LJ.yd rfl (Yd.add rfl rfl (by unfold I64; omega)) ?_
                  refine LJ.yd rfl (Yd.mvI rfl) ?_
                  refine LJ.nil ?_
                  refine ⟨(e + 1, _), ?_, ⟨rfl, trivial⟩, ⟨rfl, rfl, trivial⟩, Ent.refl _, ?_⟩
                  · refine ⟨by omega, ?_⟩
                    simp only [fsN]; omega
                  · first | omega | (dsimp only; omega) | (simp only []; omega)
                · refine LJ.nil ?_
                  refine CJ.seq ?_
                  refine CJ.condF rfl ?_
                  refine CJ.exit ?_
                  refine CJ.seq ?_
                  refine CJ.region ?_
                  refine LJ.yd rfl (Yd.mvI rfl) ?_
                  refine LJ.yd rfl (Yd.asI rfl) ?_
                  refine LJ.nil ?_
                  refine CJ.ret ?_
                  refine Fin.V (Res.one (ResV.tmp (v := .int _ _) rfl)) ?_
                  refine congrArg vI (Eq.symm ?_)
                  unfold ftR
                  first
                    | (rw [if_neg (fun h => nomatch (show true = false from (timesOk_iff.2 (grpOk_iff.1 h).1).symm.trans h15))]; done)
                    | (rw [if_neg (fun h => h22 (by have := (grpOk_iff.1 h).2.1; omega))]; done)
                    | (rw [if_neg (fun h => absurd (grpOk_iff.1 h).2.1.2 (by omega))]; done)
                    | (rw [if_neg (fun h => absurd ((grpOk_iff.1 h).2.2 u38 (List.mem_of_getElem? hu38)) (by omega))]; done)
                    | (rw [if_neg (fun h => ?_)]
                       have h1 := ((grpOk_iff.1 h).2.2 u38 (List.mem_of_getElem? hu38)).2.2
                       rw [← List.take_append_drop (k + 1) r, cntI_append, takeC hu38, cntI_append, cntI, if_pos rfl, e48] at h1
                       have h2 := cntI_le u38 (r.drop (k + 1))
                       simp only [cntI] at h1
                       omega)
                    | (rw [List.take_of_length_le (by omega)] at hin hcn
                       rw [if_pos (grpOk_iff.2 ⟨hto, by omega, fun g hg => ⟨(hin g hg).1, (hin g hg).2, hcn g⟩⟩), hx]; congr 1; omega)
  · refine LJ.yd rfl (Yd.not rfl) ?_
    refine LJ.yd rfl (Yd.mvB rfl) ?_
    refine LJ.gF rfl rfl ?_
    refine LJ.gF rfl rfl ?_
    refine LJ.gF rfl rfl ?_
    refine LJ.gF rfl rfl ?_
    refine LJ.gF rfl rfl ?_
    refine LJ.yd rfl (Yd.pickTB rfl rfl) ?_
    refine LJ.yd rfl (Yd.mvB rfl) ?_
    refine LJ.gF rfl rfl ?_
    refine LJ.gF rfl rfl ?_
    refine LJ.yd rfl (Yd.pickTB rfl rfl) ?_
    refine LJ.yd rfl (Yd.mvB rfl) ?_
    refine LJ.gF rfl rfl ?_
    refine LJ.gF rfl rfl ?_
    refine LJ.yd rfl (Yd.pickTB rfl rfl) ?_
    refine LJ.nil ?_
    refine CJ.condT rfl ?_
    refine CJ.seq ?_
    refine CJ.region ?_
    refine LJ.yd rfl (Yd.asI rfl) ?_
    refine LJ.nil ?_
    refine CJ.ret ?_
    refine Fin.V (Res.one (ResV.tmp (v := .int _ _) rfl)) ?_
    refine congrArg vI (Eq.symm ?_)
    unfold ftR
    first
      | (rw [if_neg (fun h => nomatch (show true = false from (timesOk_iff.2 (grpOk_iff.1 h).1).symm.trans h15))]; done)
      | (rw [if_neg (fun h => h22 (by have := (grpOk_iff.1 h).2.1; omega))]; done)
      | (rw [if_neg (fun h => absurd (grpOk_iff.1 h).2.1.2 (by omega))]; done)
      | (rw [if_neg (fun h => absurd ((grpOk_iff.1 h).2.2 u38 (List.mem_of_getElem? hu38)) (by omega))]; done)
      | (rw [if_neg (fun h => ?_)]
         have h1 := ((grpOk_iff.1 h).2.2 u38 (List.mem_of_getElem? hu38)).2.2
         rw [← List.take_append_drop (k + 1) r, cntI_append, takeC hu38, cntI_append, cntI, if_pos rfl, e48] at h1
         have h2 := cntI_le u38 (r.drop (k + 1))
         simp only [cntI] at h1
         omega)
      | (rw [List.take_of_length_le (by omega)] at hin hcn
         rw [if_pos (grpOk_iff.2 ⟨hto, by omega, fun g hg => ⟨(hin g hg).1, (hin g hg).2, hcn g⟩⟩), hx]; congr 1; omega)
end Go.Proofs.Ytlknglhldfpbdaa
