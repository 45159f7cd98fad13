/-
  Contracts: the least number of bars, in the reference; in the program.
-/
import Derived.Test.YtkojheinklgdeaaB4
namespace Go.Proofs.Ytkojheinklgdeaa
open Go
set_option maxRecDepth 20000
set_option maxHeartbeats 1000000

theorem pow_i {k n : Nat} {x : Int} (h : k ≤ n) (hn : n ≤ 60) (hx : x = ((2 ^ k : Nat) : Int)) : I64 (2 * x) := by
  have h1 : 2 ^ k ≤ 2 ^ 60 := Nat.pow_le_pow_right (by omega) (by omega)
  have e : (2 : Nat) ^ 60 = 1152921504606846976 := by decide
  rw [hx]; generalize 2 ^ k = z at h1; unfold I64; omega
theorem power_ok {A : Amb} {n : Nat} (hn : n ≤ 60) : Ctr Try.prog 81 #[vI n] A [] (Val (vI ((2 ^ n : Nat) : Int))) := by
  refine Ctr.body (args := [_]) Try.func81 rfl Try.ntmps81 Try.results81 (by simp) ?_
  refine CJ.seq ?_
  refine CJ.region ?_
  refine LJ.yd rfl (Yd.asI rfl) ?_
  refine LJ.nil ?_
  refine CJ.seq ?_
  refine CJ.region ?_
  refine LJ.yd rfl (Yd.asI rfl) ?_
  refine LJ.nil ?_
  refine CJ.seq ?_
  refine CJ.seq ?_
  refine CJ.region ?_
  refine LJ.yd rfl (Yd.asI rfl) ?_
  refine LJ.nil ?_
  refine CJ.block ?_
  refine CJ.loopK [0, 2] (Nat × Int) (fun ⟨k, x⟩ => k ≤ n ∧ x = ((2 ^ k : Nat) : Int)) (fun ⟨k, x⟩ => [(4, vI k), (3, vI x)]) (fun ⟨k, x⟩ => n - k) (0, 1) ?_ ⟨rfl, rfl, trivial⟩ ?_
  · exact ⟨by omega, rfl⟩
  · rintro ⟨k, x⟩ σ ⟨hk1, hx⟩
    refine CJ.seq ?_
    refine CJ.seq ?_
    refine CJ.region ?_
    refine LJ.yd rfl (Yd.mvI rfl) ?_
    refine LJ.yd rfl (Yd.mvI rfl) ?_
    refine LJ.splitD rfl (Yd.lss rfl rfl) (fun h7 => ?_) (fun h7 => ?_)
    · refine LJ.nil ?_
      refine CJ.condT rfl ?_
      refine CJ.skip ?_
      refine CJ.seq ?_
      refine CJ.block ?_
      refine CJ.region ?_
      refine LJ.yd rfl (Yd.mvI rfl) ?_
      refine LJ.yd rfl (Yd.mul rfl rfl (pow_i hk1 hn hx)) ?_
      refine LJ.yd rfl (Yd.asI rfl) ?_
      refine LJ.nil ?_
      refine CJ.region ?_
      refine LJ.yd rfl (Yd.mvI rfl) ?_
      refine LJ.yd rfl (Yd.add rfl rfl (by unfold I64; omega)) ?_
      refine LJ.yd rfl (Yd.asI rfl) ?_
      refine LJ.nil ?_
      refine ⟨(k + 1, _), ?_, ⟨rfl, rfl, trivial⟩, ⟨rfl, rfl, trivial⟩, Ent.refl _, ?_⟩
      · refine ⟨by omega, ?_⟩
        rw [hx, Nat.pow_succ]; omega
      · first | omega | (dsimp only; omega) | (simp only []; omega)
    · refine LJ.nil ?_
      refine CJ.condF rfl ?_
      refine CJ.exit ?_
      refine CJ.seq ?_
      refine CJ.region ?_
      refine LJ.yd rfl (Yd.mvI rfl) ?_
      refine LJ.yd rfl (Yd.asI rfl) ?_
      refine LJ.nil ?_
      refine CJ.ret ?_
      refine Fin.V (Res.one (ResV.tmp (v := .int _ _) rfl)) ?_
      rw [hx, show k = n by omega]
theorem has_ok {A : Amb} {s n : Nat} (hs : s < 2 ^ 62) (hn : n ≤ 1000) : Ctr Try.prog 82 #[vI s, vI n] A [] (Val (.bool (decide (s / 2 ^ n % 2 = 1)))) := by
  refine Ctr.body (args := [_, _]) Try.func82 rfl Try.ntmps82 Try.results82 (by simp) ?_
  refine CJ.seq ?_
  refine CJ.region ?_
  refine LJ.yd rfl (Yd.asB rfl) ?_
  refine LJ.nil ?_
  refine CJ.seq ?_
  refine CJ.seq ?_
  refine CJ.region ?_
  refine LJ.yd rfl (Yd.asI rfl) ?_
  refine LJ.nil ?_
  refine CJ.block ?_
  refine CJ.loopK [1, 4] (Nat × Nat) (fun ⟨k, x⟩ => k ≤ n ∧ x = s / 2 ^ k ∧ x ≤ s) (fun ⟨k, x⟩ => [(5, vI k), (0, vI x)]) (fun ⟨k, x⟩ => n - k) (0, s) ?_ ⟨rfl, rfl, trivial⟩ ?_
  · exact ⟨by omega, by simp, by omega⟩
  · rintro ⟨k, x⟩ σ ⟨hk1, hx, hxs⟩
    refine CJ.seq ?_
    refine CJ.seq ?_
    refine CJ.region ?_
    refine LJ.yd rfl (Yd.mvI rfl) ?_
    refine LJ.yd rfl (Yd.mvI rfl) ?_
    refine LJ.splitD rfl (Yd.lss rfl rfl) (fun h8 => ?_) (fun h8 => ?_)
    · refine LJ.nil ?_
      refine CJ.condT rfl ?_
      refine CJ.skip ?_
      refine CJ.seq ?_
      refine CJ.block ?_
      refine CJ.region ?_
      refine LJ.yd rfl (Yd.mvI rfl) ?_
      refine LJ.yd rfl (Yd.quo rfl rfl (by omega) (by omega) (by unfold I64; omega)) ?_
      refine LJ.yd rfl (Yd.asI rfl) ?_
      refine LJ.nil ?_
      refine CJ.region ?_
      refine LJ.yd rfl (Yd.mvI rfl) ?_
      refine LJ.yd rfl (Yd.add rfl rfl (by unfold I64; omega)) ?_
      refine LJ.yd rfl (Yd.asI rfl) ?_
      refine LJ.nil ?_
      refine ⟨(k + 1, x / 2), ?_, ⟨rfl, rfl, trivial⟩, ⟨rfl, rfl, trivial⟩, Ent.refl _, ?_⟩
      · refine ⟨by omega, ?_⟩
        exact ⟨by rw [hx, Nat.div_div_eq_div_mul, Nat.pow_succ], by omega⟩
      · first | omega | (dsimp only; omega) | (simp only []; omega)
    · refine LJ.nil ?_
      refine CJ.condF rfl ?_
      refine CJ.exit ?_
      refine CJ.seq ?_
      refine CJ.region ?_
      refine LJ.yd rfl (Yd.mvI rfl) ?_
      refine LJ.yd rfl (Yd.rem rfl rfl (by omega) (by omega)) ?_
      refine LJ.yd rfl (Yd.eql rfl rfl) ?_
      refine LJ.yd rfl (Yd.asB rfl) ?_
      refine LJ.nil ?_
      refine CJ.ret ?_
      refine Fin.V (Res.one (ResV.tmp (v := .bool _) rfl)) ?_
      refine congrArg Value.bool ?_
      rw [← show k = n by omega, ← hx, Bool.eq_iff_iff, decide_eq_true_eq, decide_eq_true_eq]; omega
theorem inside_ok {A : Amb} {a b : Nat} (ha : a < 2 ^ 62) (hb : b < 2 ^ 62) : Ctr Try.prog 83 #[vI a, vI b] A [] (Val (.bool (decide (Sub a b)))) := by
  refine Ctr.body (args := [_, _]) Try.func83 rfl Try.ntmps83 Try.results83 (by simp) ?_
  refine CJ.seq ?_
  refine CJ.region ?_
  refine LJ.yd rfl (Yd.asB rfl) ?_
  refine LJ.nil ?_
  refine CJ.seq ?_
  refine CJ.block ?_
  refine CJ.loopK [] (Nat × Nat) (fun ⟨x, y⟩ => (Sub x y ↔ Sub a b) ∧ x < 2 ^ 62 ∧ y < 2 ^ 62) (fun ⟨x, y⟩ => [(0, vI x), (1, vI y)]) (fun ⟨x, y⟩ => x) (a, b) ?_ ⟨rfl, rfl, trivial⟩ ?_
  · exact ⟨Iff.rfl, ha, hb⟩
  · rintro ⟨x, y⟩ σ ⟨hi, hx, hy⟩
    refine CJ.seq ?_
    refine CJ.seq ?_
    refine CJ.region ?_
    refine LJ.yd rfl (Yd.mvI rfl) ?_
    refine LJ.splitD rfl (Yd.gtr rfl rfl) (fun h6 => ?_) (fun h6 => ?_)
    · refine LJ.nil ?_
      refine CJ.condT rfl ?_
      refine CJ.skip ?_
      refine CJ.block ?_
      refine CJ.seq ?_
      refine CJ.seq ?_
      refine CJ.region ?_
      refine LJ.yd rfl (Yd.mvI rfl) ?_
      refine LJ.yd rfl (Yd.rem rfl rfl (by omega) (by omega)) ?_
      refine LJ.yd rfl (Yd.mvI rfl) ?_
      refine LJ.yd rfl (Yd.rem rfl rfl (by omega) (by omega)) ?_
      refine LJ.splitD rfl (Yd.gtr rfl rfl) (fun h11 => ?_) (fun h11 => ?_)
      · refine LJ.nil ?_
        refine CJ.condT rfl ?_
        refine CJ.seq ?_
        refine CJ.region ?_
        refine LJ.yd rfl (Yd.asB rfl) ?_
        refine LJ.nil ?_
        refine CJ.ret ?_
        refine Fin.V (Res.one (ResV.tmp (v := .bool false) rfl)) ?_
        refine congrArg Value.bool (Eq.symm ?_)
        first
          | (refine decide_eq_true (hi.1 ?_); rw [show x = 0 by omega]; exact Sub.zero _)
          | (refine decide_eq_false fun h => ?_; have := (hi.2 h).odd; omega)
      · refine LJ.nil ?_
        refine CJ.condF rfl ?_
        refine CJ.skip ?_
        refine CJ.seq ?_
        refine CJ.region ?_
        refine LJ.yd rfl (Yd.mvI rfl) ?_
        refine LJ.yd rfl (Yd.quo rfl rfl (by omega) (by omega) (by unfold I64; omega)) ?_
        refine LJ.yd rfl (Yd.asI rfl) ?_
        refine LJ.nil ?_
        refine CJ.region ?_
        refine LJ.yd rfl (Yd.mvI rfl) ?_
        refine LJ.yd rfl (Yd.quo rfl rfl (by omega) (by omega) (by unfold I64; omega)) ?_
        refine LJ.yd rfl (Yd.asI rfl) ?_
        refine LJ.nil ?_
        refine ⟨(x / 2, y / 2), ?_, trivial, ⟨rfl, rfl, trivial⟩, Ent.refl _, ?_⟩
        · exact ⟨by rw [← hi, sub_iff (a := x)]; exact ⟨fun h => ⟨by omega, h⟩, fun h => h.2⟩, by omega, by omega⟩
        · first | omega | (dsimp only; omega) | (simp only []; omega)
    · refine LJ.nil ?_
      refine CJ.condF rfl ?_
      refine CJ.exit ?_
      refine CJ.seq ?_
      refine CJ.region ?_
      refine LJ.yd rfl (Yd.asB rfl) ?_
      refine LJ.nil ?_
      refine CJ.ret ?_
      refine Fin.V (Res.one (ResV.tmp (v := .bool true) rfl)) ?_
      refine congrArg Value.bool (Eq.symm ?_)
      first
        | (refine decide_eq_true (hi.1 ?_); rw [show x = 0 by omega]; exact Sub.zero _)
        | (refine decide_eq_false fun h => ?_; have := (hi.2 h).odd; omega)
theorem smk_bit : ∀ {l : List Int} {i : Nat} {u : Int}, l[i]? = some u → smk l (2 ^ i) = u
  | x :: r, 0, u, h => by
    simp at h; subst h
    simp [smk, smk_zero]
  | x :: r, i + 1, u, h => by
    simp only [smk]
    rw [show 2 ^ (i + 1) / 2 = 2 ^ i by rw [Nat.pow_succ]; omega, show 2 ^ (i + 1) % 2 = 0 by rw [Nat.pow_succ]; omega]
    rw [smk_bit (l := r) (i := i) (by simpa using h)]; simp
theorem okB_bit {l : List Int} {bar : Int} (hm : ∀ u ∈ l, 1 ≤ u ∧ u ≤ bar) : ∀ i, i < l.length → okB l bar (2 ^ i) = true := fun i hi => by
  obtain ⟨u, hu⟩ := someC (l := l) (j := i) hi
  rw [okB, smk_bit hu]
  exact decide_eq_true (hm u (List.mem_of_getElem? hu)).2
theorem smk_le : ∀ {l : List Int} (s : Nat), (∀ u ∈ l, 0 ≤ u ∧ u ≤ 1000) → 0 ≤ smk l s ∧ smk l s ≤ 1000 * l.length
  | [], _, _ => by simp [smk]
  | x :: r, s, h => by
    have h1 := smk_le (l := r) (s / 2) (fun u hu => h u (List.mem_cons_of_mem _ hu))
    have h2 := h x List.mem_cons_self
    simp only [smk, List.length_cons]
    split <;> omega
theorem smk_step {l : List Int} {s k : Nat} {u : Int} (hu : l[k]? = some u) : smk (l.drop k) (s / 2 ^ k) = (if s / 2 ^ k % 2 = 1 then u else 0) + smk (l.drop (k + 1)) (s / 2 ^ (k + 1)) := by
  rw [dropC hu, smk, Nat.div_div_eq_div_mul, Nat.pow_succ]
theorem low_next {ok : Nat → Bool} {s g : Nat} {B v : Int} (h0 : 0 < g) (h : Low ok s (fun x => x = g ∨ g < x) B v) : Low ok s (fun x => g - 1 < x) B v := by
  obtain ⟨a, ha, hv⟩ := h
  exact ⟨a, ha.cong fun x _ _ => ⟨fun hp => by omega, fun hp => by omega⟩, hv⟩
theorem fewest_ok {A : Amb} {v : Value} {l : List Int} {bar : Int} (hl : RdL encI 1 A.h v l) (hm : ∀ u ∈ l, 1 ≤ u ∧ u ≤ bar) (hb : bar ≤ 200) (hn : l.length ≤ 7) :
    Ctr Try.prog 61 #[v, vI bar] A [] (fun v gs => ∃ a c, ∃ O : List Int, v = .slice a O.length c ∧ gs = [LR encI 3 1 a c O] ∧ O.length = 2 ^ l.length ∧ ∀ t, t < 2 ^ l.length → O[t]? = some (fewN (okB l bar) t)) := by
  obtain ⟨la, lc, rfl, hlb, hl⟩ := hl.un
  obtain ⟨hp1, hp2⟩ := pow_b hn
  have hm2 : ∀ u ∈ l, 0 ≤ u ∧ u ≤ 1000 := fun u hu => by have := hm u hu; omega
  have hone := okB_bit hm
  refine Ctr.body (args := [_, _]) Try.func61 rfl Try.ntmps61 Try.results61 (by simp) ?_
  refine CJ.seq ?_
  refine CJ.region ?_
  refine LJ.yd rfl (Yd.asS rfl) ?_
  refine LJ.nil ?_
  refine CJ.seq ?_
  refine CJ.region ?_
  refine LJ.yd rfl (Yd.mvS rfl) ?_
  refine LJ.yd rfl (Yd.len rfl) ?_
  refine LJ.callV rfl (fun k hk dk => power_ok (by omega)) ?_
  refine LJ.yd rfl (Yd.asI rfl) ?_
  refine LJ.nil ?_
  refine CJ.seq ?_
  refine CJ.region ?_
  refine LJ.yd rfl (Yd.mvI rfl) ?_
  refine LJ.op rfl (OpR.mk (enc := encI) (0 : Int) (m := 2 ^ l.length) rfl rfl rfl (by first | rfl | omega | (simp; done) | (simp; omega) | (simp [upN_len]; omega) | (simp [idxBy_len]; omega) | (simp [marks_len]; omega) | (simp [upN_len]; done) | (simp [idxBy_len]; done) | (simp [marks_len]; done) | (simp at *; omega))) ?_
  rintro _ _ ⟨g15, rfl, rfl⟩
  refine LJ.norm [_] rfl ?_
  refine LJ.yd rfl (Yd.asS rfl) ?_
  refine LJ.nil ?_
  refine CJ.seq ?_
  refine CJ.region ?_
  refine LJ.yd rfl (Yd.mvI rfl) ?_
  refine LJ.op rfl (OpR.mk (enc := encI) (0 : Int) (m := 2 ^ l.length) rfl rfl rfl (by first | rfl | omega | (simp; done) | (simp; omega) | (simp [upN_len]; omega) | (simp [idxBy_len]; omega) | (simp [marks_len]; omega) | (simp [upN_len]; done) | (simp [idxBy_len]; done) | (simp [marks_len]; done) | (simp at *; omega))) ?_
  rintro _ _ ⟨g17, rfl, rfl⟩
  refine LJ.norm [_, _] rfl ?_
  refine LJ.yd rfl (Yd.asS rfl) ?_
  refine LJ.nil ?_
  refine CJ.seq ?_
  refine CJ.seq ?_
  refine CJ.region ?_
  refine LJ.yd rfl (Yd.asI rfl) ?_
  refine LJ.nil ?_
  refine CJ.block ?_
  refine CJ.loopF [0, 1, 4, 5, 6, 7] (Nat × List Int × List Int) (fun ⟨s, M, O⟩ => s ≤ 2 ^ l.length ∧ 1 ≤ s ∧ (M.length = 2 ^ l.length ∧ O.length = 2 ^ l.length) ∧ (∀ t, t < 2 ^ l.length → M[t]? = some (if t < s then smk l t else 0)) ∧ ∀ t, t < s → ∃ v, O[t]? = some v ∧ Few (okB l bar) t v ∧ 0 ≤ v) (fun ⟨s, M, O⟩ => [(8, vI s)]) (fun ⟨s, M, O⟩ => [LR encI 3 1 (some ⟨g15, 0, none⟩) (2 ^ l.length) M, LR encI 3 1 (some ⟨g17, 0, none⟩) (2 ^ l.length) O]) (fun ⟨s, M, O⟩ => 2 ^ l.length - s) (1, List.replicate (2 ^ l.length) 0, List.replicate (2 ^ l.length) 0) [] [] [0, 1] rfl rfl rfl ?_ ⟨rfl, trivial⟩ ?_
  · exact ⟨by omega, by omega, by simp, fun t ht => by rw [rep_get ht]; split <;> first | rfl | rw [show t = 0 by omega, smk_zero], fun t ht => ⟨0, rep_get (by omega), Few.zeroT ht, by omega⟩⟩
  · rintro ⟨s, M, O⟩ σ ⟨hs1, hs0, ⟨hMl, hOl⟩, hM, hO⟩
    refine CJ.norm [_, _] rfl ?_
    refine CJ.seq ?_
    refine CJ.seq ?_
    refine CJ.region ?_
    refine LJ.yd rfl (Yd.mvI rfl) ?_
    refine LJ.yd rfl (Yd.mvI rfl) ?_
    refine LJ.splitD rfl (Yd.lss rfl rfl) (fun h20 => ?_) (fun h20 => ?_)
    · refine LJ.nil ?_
      refine CJ.condT rfl ?_
      refine CJ.skip ?_
      refine CJ.seq ?_
      refine CJ.block ?_
      refine CJ.seq ?_
      refine CJ.seq ?_
      refine CJ.region ?_
      refine LJ.yd rfl (Yd.asI rfl) ?_
      refine LJ.nil ?_
      refine CJ.block ?_
      refine CJ.loopF [0, 1, 4, 5, 6, 7, 8, 18, 19, 20] (Nat × List Int × Int) (fun ⟨i, M2, x⟩ => i ≤ l.length ∧ M2.length = 2 ^ l.length ∧ (∀ t, t < 2 ^ l.length → t ≠ s → M2[t]? = M[t]?) ∧ M2[s]? = some x ∧ (0 ≤ x ∧ x ≤ 1000 * i) ∧ x + smk (l.drop i) (s / 2 ^ i) = smk l s) (fun ⟨i, M2, x⟩ => [(9, vI i)]) (fun ⟨i, M2, x⟩ => [LR encI 3 1 (some ⟨g15, 0, none⟩) (2 ^ l.length) M2]) (fun ⟨i, M2, x⟩ => l.length - i) (0, M, 0) [_] [1] [0] rfl rfl rfl ?_ ⟨rfl, trivial⟩ ?_
      · exact ⟨by omega, hMl, fun _ _ _ => rfl, by rw [hM s (by omega), if_neg (by omega)], by omega, by simp⟩
      · rintro ⟨i, M2, x⟩ σ ⟨hi1, hM2l, hM2, hMs, ⟨hx0, hx1⟩, hx⟩
        refine CJ.norm [_, _] rfl ?_
        refine CJ.seq ?_
        refine CJ.seq ?_
        refine CJ.region ?_
        refine LJ.yd rfl (Yd.mvI rfl) ?_
        refine LJ.yd rfl (Yd.mvS rfl) ?_
        refine LJ.yd rfl (Yd.len rfl) ?_
        refine LJ.splitD rfl (Yd.lss rfl rfl) (fun h26 => ?_) (fun h26 => ?_)
        · refine LJ.nil ?_
          refine CJ.condT rfl ?_
          refine CJ.skip ?_
          refine CJ.seq ?_
          refine CJ.block ?_
          refine CJ.seq ?_
          refine CJ.region ?_
          refine LJ.yd rfl (Yd.mvI rfl) ?_
          refine LJ.yd rfl (Yd.mvI rfl) ?_
          refine LJ.callB rfl (fun k hk dk => has_ok (by omega) (by omega)) (fun h31 => ?_) (fun h31 => ?_)
          · refine LJ.nil ?_
            refine CJ.condT rfl ?_
            refine CJ.regionD [0] [1] (by kernel_rfl) rfl ?_
            refine DJ.norm [_] [_] rfl rfl ?_
            refine DJ.yd 0 rfl (by kernel_rfl) (by kernel_rfl) (by kernel_rfl) rfl rfl (Yd.mvS rfl) ?_
            refine DJ.yd 1 rfl (by kernel_rfl) (by kernel_rfl) (by kernel_rfl) rfl rfl (Yd.mvI rfl) ?_
            refine DJ.yd 2 rfl (by kernel_rfl) (by kernel_rfl) (by kernel_rfl) rfl rfl (Yd.mvS rfl) ?_
            refine DJ.yd 3 rfl (by kernel_rfl) (by kernel_rfl) (by kernel_rfl) rfl rfl (Yd.mvI rfl) ?_
            refine DJ.idxR 0 rfl 4 rfl (by kernel_rfl) (by kernel_rfl) (by kernel_rfl) rfl rfl rfl rfl (by omega) (by first | rfl | omega | (simp; done) | (simp; omega) | (simp [upN_len]; omega) | (simp [idxBy_len]; omega) | (simp [marks_len]; omega) | (simp [upN_len]; done) | (simp [idxBy_len]; done) | (simp [marks_len]; done) | (simp at *; omega)) (by first | rfl | omega | (simp; done) | (simp; omega) | (simp [upN_len]; omega) | (simp [idxBy_len]; omega) | (simp [marks_len]; omega) | (simp [upN_len]; done) | (simp [idxBy_len]; done) | (simp [marks_len]; done) | (simp at *; omega)) (fun ib36 ia36 => ?_)
            refine DJ.yd 6 rfl (by kernel_rfl) (by kernel_rfl) (by kernel_rfl) rfl rfl (Yd.mvS rfl) ?_
            refine DJ.yd 7 rfl (by kernel_rfl) (by kernel_rfl) (by kernel_rfl) rfl rfl (Yd.mvI rfl) ?_
            refine DJ.idxA 8 rfl (by kernel_rfl) (by kernel_rfl) (by kernel_rfl) rfl rfl hl rfl rfl (by omega) (by first | rfl | omega | (simp; done) | (simp; omega) | (simp [upN_len]; omega) | (simp [idxBy_len]; omega) | (simp [marks_len]; omega) | (simp [upN_len]; done) | (simp [idxBy_len]; done) | (simp [marks_len]; done) | (simp at *; omega)) (fun ib40 io40 ia40 ir40 => ?_)
            refine DJ.ldA 9 rfl (by kernel_rfl) (by kernel_rfl) (by kernel_rfl) rfl rfl 0 (fun u => vI u) (fun _ => rfl) ir40 rfl rfl (by first | rfl | omega | (simp; done) | (simp; omega) | (simp [upN_len]; omega) | (simp [idxBy_len]; omega) | (simp [marks_len]; omega) | (simp [upN_len]; done) | (simp [idxBy_len]; done) | (simp [marks_len]; done) | (simp at *; omega)) (fun u41 hu41 => ?_)
            try simp only [Int.toNat_natCast] at hu41
            have hf41 := hm2 u41 (List.mem_of_getElem? hu41)
            refine DJ.one (i := 5) (by kernel_rfl) ?_
            refine DO.ldR rfl rfl rfl 0 0 (fun u => vI u) (fun _ => rfl) rfl ia36 rfl rfl (by first | rfl | omega | (simp; done) | (simp; omega) | (simp [upN_len]; omega) | (simp [idxBy_len]; omega) | (simp [marks_len]; omega) | (simp [upN_len]; done) | (simp [idxBy_len]; done) | (simp [marks_len]; done) | (simp at *; omega)) (fun u37 hu37 => ?_)
            try simp only [Int.toNat_natCast] at hu37
            obtain rfl : x = u37 := by rw [hMs] at hu37; exact Option.some.inj hu37
            refine DJ.yd 10 rfl (by kernel_rfl) (by kernel_rfl) (by kernel_rfl) rfl rfl (Yd.add rfl rfl (by unfold I64; omega)) ?_
            refine DJ.idxR 0 rfl 11 rfl (by kernel_rfl) (by kernel_rfl) (by kernel_rfl) rfl rfl rfl rfl (by omega) (by first | rfl | omega | (simp; done) | (simp; omega) | (simp [upN_len]; omega) | (simp [idxBy_len]; omega) | (simp [marks_len]; omega) | (simp [upN_len]; done) | (simp [idxBy_len]; done) | (simp [marks_len]; done) | (simp at *; omega)) (by first | rfl | omega | (simp; done) | (simp; omega) | (simp [upN_len]; omega) | (simp [idxBy_len]; omega) | (simp [marks_len]; omega) | (simp [upN_len]; done) | (simp [idxBy_len]; done) | (simp [marks_len]; done) | (simp at *; omega)) (fun ib43 ia43 => ?_)
            refine DJ.one (i := 12) (by kernel_rfl) ?_
            refine DO.op rfl rfl rfl (fun k0 hk0 dk0 => OpR.st1 (enc := encI) (e1 := fun u => vI u) 0 (fun _ => rfl) (fun _ => rfl) (fun _ => rfl) rfl ia43 rfl rfl rfl (by first | rfl | omega | (simp; done) | (simp; omega) | (simp [upN_len]; omega) | (simp [idxBy_len]; omega) | (simp [marks_len]; omega) | (simp [upN_len]; done) | (simp [idxBy_len]; done) | (simp [marks_len]; done) | (simp at *; omega))) ?_
            rintro _ _ ⟨rfl, rfl⟩
            refine DJ.norm [_] [_] rfl rfl ?_
            refine DJ.done (by kernel_rfl) ?_
            refine CJ.region ?_
            refine LJ.yd rfl (Yd.mvI rfl) ?_
            refine LJ.yd rfl (Yd.add rfl rfl (by unfold I64; omega)) ?_
            refine LJ.yd rfl (Yd.asI rfl) ?_
            refine LJ.nil ?_
            refine ⟨(i + 1, M2.set s (x + u41), x + u41), ?_, ⟨rfl, rfl, rfl, rfl, rfl, rfl, rfl, rfl, rfl, rfl, trivial⟩, ⟨rfl, trivial⟩, Ent.refl _, ?_⟩
            · refine ⟨by omega, ?_⟩
              rw [smk_step hu41, if_pos (of_decide_eq_true h31)] at hx
              exact ⟨by simp [hM2l], fun t ht hne => by rw [List.getElem?_set_ne (fun e => hne e.symm)]; exact hM2 t ht hne, by rw [List.getElem?_set_self (by omega)], by omega, by omega⟩
            · first | omega | (dsimp only; omega) | (simp only []; omega)
          · refine LJ.nil ?_
            refine CJ.condF rfl ?_
            refine CJ.skip ?_
            refine CJ.region ?_
            refine LJ.yd rfl (Yd.mvI rfl) ?_
            refine LJ.yd rfl (Yd.add rfl rfl (by unfold I64; omega)) ?_
            refine LJ.yd rfl (Yd.asI rfl) ?_
            refine LJ.nil ?_
            refine ⟨(i + 1, M2, x), ?_, ⟨rfl, rfl, rfl, rfl, rfl, rfl, rfl, rfl, rfl, rfl, trivial⟩, ⟨rfl, trivial⟩, Ent.refl _, ?_⟩
            · refine ⟨by omega, ?_⟩
              obtain ⟨z, hz⟩ := someC (l := l) (j := i) (by omega)
              rw [smk_step hz, if_neg (of_decide_eq_false h31)] at hx
              exact ⟨hM2l, hM2, hMs, by omega, by omega⟩
            · first | omega | (dsimp only; omega) | (simp only []; omega)
        · refine LJ.nil ?_
          refine CJ.condF rfl ?_
          refine CJ.exit ?_
          refine CJ.seq ?_
          refine CJ.region ?_
          refine LJ.yd rfl (Yd.mvS rfl) ?_
          refine LJ.yd rfl (Yd.mvI rfl) ?_
          refine LJ.yd rfl (Yd.mvS rfl) ?_
          refine LJ.yd rfl (Yd.len rfl) ?_
          refine LJ.yd rfl (Yd.add rfl rfl (by unfold I64; omega)) ?_
          refine LJ.idxR 0 rfl rfl rfl rfl (by omega) (by first | rfl | omega | (simp; done) | (simp; omega) | (simp [upN_len]; omega) | (simp [idxBy_len]; omega) | (simp [marks_len]; omega) | (simp [upN_len]; done) | (simp [idxBy_len]; done) | (simp [marks_len]; done) | (simp at *; omega)) (by first | rfl | omega | (simp; done) | (simp; omega) | (simp [upN_len]; omega) | (simp [idxBy_len]; omega) | (simp [marks_len]; omega) | (simp [upN_len]; done) | (simp [idxBy_len]; done) | (simp [marks_len]; done) | (simp at *; omega)) (fun ib49 ia49 => ?_)
          refine LJ.op rfl (OpR.st1 (enc := encI) (e1 := fun u => vI u) 0 (fun _ => rfl) (fun _ => rfl) (fun _ => rfl) rfl ia49 rfl rfl rfl (by first | rfl | omega | (simp; done) | (simp; omega) | (simp [upN_len]; omega) | (simp [idxBy_len]; omega) | (simp [marks_len]; omega) | (simp [upN_len]; done) | (simp [idxBy_len]; done) | (simp [marks_len]; done) | (simp at *; omega))) ?_
          rintro _ _ ⟨rfl, rfl⟩
          refine LJ.norm [_, _] rfl ?_
          refine LJ.nil ?_
          refine CJ.seq ?_
          refine CJ.region ?_
          refine LJ.yd rfl (Yd.mvI rfl) ?_
          refine LJ.yd rfl (Yd.asI rfl) ?_
          refine LJ.nil ?_
          refine CJ.block ?_
          have hM3 : M2[s]? = some (smk l s) := by
            rw [List.drop_of_length_le (by omega), smk] at hx
            rw [hMs, ← hx]; congr 1; omega
          refine CJ.loopF [0, 1, 4, 5, 6, 7, 8, 9, 18, 19, 20, 23, 24, 25, 26, 44, 45, 46, 47, 48, 49, 50] (Nat × List Int × Int) (fun ⟨g, O2, v⟩ => g ≤ s ∧ O2.length = 2 ^ l.length ∧ (∀ t, t < s → O2[t]? = O[t]?) ∧ O2[s]? = some v ∧ Low (okB l bar) s (fun x => g < x) (l.length + 1) v) (fun ⟨g, O2, v⟩ => [(10, vI g)]) (fun ⟨g, O2, v⟩ => [LR encI 3 1 (some ⟨g17, 0, none⟩) (2 ^ l.length) O2]) (fun ⟨g, O2, v⟩ => g) (s, O.set s (l.length + 1), l.length + 1) [_] [1] [0] rfl rfl rfl ?_ ⟨rfl, trivial⟩ ?_
          · exact ⟨by omega, by simp [hOl], fun t ht => by rw [List.getElem?_set_ne (by omega)], by rw [List.getElem?_set_self (by omega)], Low.init fun x h1 h2 _ => by have := h2.le; omega⟩
          · rintro ⟨g, O2, v⟩ σ ⟨hgs, hO2l, hO2, hv, hlow⟩
            refine CJ.norm [_, _] rfl ?_
            refine CJ.seq ?_
            refine CJ.seq ?_
            refine CJ.region ?_
            refine LJ.yd rfl (Yd.mvI rfl) ?_
            refine LJ.splitD rfl (Yd.gtr rfl rfl) (fun h52 => ?_) (fun h52 => ?_)
            · refine LJ.nil ?_
              refine CJ.condT rfl ?_
              refine CJ.skip ?_
              refine CJ.seq ?_
              refine CJ.block ?_
              refine CJ.seq ?_
              refine CJ.region ?_
              refine LJ.yd rfl (Yd.mvI rfl) ?_
              refine LJ.yd rfl (Yd.mvI rfl) ?_
              refine LJ.callB rfl (fun k hk dk => inside_ok (by omega) (by omega)) (fun h57 => ?_) (fun h57 => ?_)
              · refine LJ.yd rfl (Yd.mvB rfl) ?_
                refine LJ.gT rfl ?_
                refine LJ.yd rfl (Yd.mvS rfl) ?_
                refine LJ.gT rfl ?_
                refine LJ.yd rfl (Yd.mvI rfl) ?_
                refine LJ.gT rfl ?_
                refine LJ.idxR 0 rfl rfl rfl rfl (by omega) (by first | rfl | omega | (simp; done) | (simp; omega) | (simp [upN_len]; omega) | (simp [idxBy_len]; omega) | (simp [marks_len]; omega) | (simp [upN_len]; done) | (simp [idxBy_len]; done) | (simp [marks_len]; done) | (simp at *; omega)) (by first | rfl | omega | (simp; done) | (simp; omega) | (simp [upN_len]; omega) | (simp [idxBy_len]; omega) | (simp [marks_len]; omega) | (simp [upN_len]; done) | (simp [idxBy_len]; done) | (simp [marks_len]; done) | (simp at *; omega)) (fun ib61 ia61 => ?_)
                refine LJ.gT rfl ?_
                refine LJ.ldR 0 0 (fun u => vI u) (fun _ => rfl) rfl ia61 rfl rfl rfl (by first | rfl | omega | (simp; done) | (simp; omega) | (simp [upN_len]; omega) | (simp [idxBy_len]; omega) | (simp [marks_len]; omega) | (simp [upN_len]; done) | (simp [idxBy_len]; done) | (simp [marks_len]; done) | (simp at *; omega)) (fun u62 hu62 => ?_)
                try simp only [Int.toNat_natCast] at hu62
                have hs62 : smk l g = u62 := by
                  by_cases e : g = s
                  · subst e; rw [hM3] at hu62; exact Option.some.inj hu62
                  · rw [hM2 g (by omega) e, hM g (by omega), if_pos (by omega)] at hu62; exact Option.some.inj hu62
                refine LJ.gT rfl ?_
                refine LJ.yd rfl (Yd.mvI rfl) ?_
                refine LJ.gT rfl ?_
                refine LJ.splitD rfl (Yd.leq rfl rfl) (fun h64 => ?_) (fun h64 => ?_)
                · refine LJ.yd rfl (Yd.pickTB rfl rfl) ?_
                  refine LJ.nil ?_
                  refine CJ.condT rfl ?_
                  refine CJ.regionD [0] [1] (by kernel_rfl) rfl ?_
                  refine DJ.norm [_] [_] rfl rfl ?_
                  refine DJ.yd 0 rfl (by kernel_rfl) (by kernel_rfl) (by kernel_rfl) rfl rfl (Yd.mvS rfl) ?_
                  refine DJ.yd 1 rfl (by kernel_rfl) (by kernel_rfl) (by kernel_rfl) rfl rfl (Yd.mvI rfl) ?_
                  refine DJ.yd 2 rfl (by kernel_rfl) (by kernel_rfl) (by kernel_rfl) rfl rfl (Yd.mvS rfl) ?_
                  refine DJ.yd 3 rfl (by kernel_rfl) (by kernel_rfl) (by kernel_rfl) rfl rfl (Yd.mvI rfl) ?_
                  refine DJ.idxR 0 rfl 4 rfl (by kernel_rfl) (by kernel_rfl) (by kernel_rfl) rfl rfl rfl rfl (by omega) (by first | rfl | omega | (simp; done) | (simp; omega) | (simp [upN_len]; omega) | (simp [idxBy_len]; omega) | (simp [marks_len]; omega) | (simp [upN_len]; done) | (simp [idxBy_len]; done) | (simp [marks_len]; done) | (simp at *; omega)) (by first | rfl | omega | (simp; done) | (simp; omega) | (simp [upN_len]; omega) | (simp [idxBy_len]; omega) | (simp [marks_len]; omega) | (simp [upN_len]; done) | (simp [idxBy_len]; done) | (simp [marks_len]; done) | (simp at *; omega)) (fun ib70 ia70 => ?_)
                  refine DJ.yd 6 rfl (by kernel_rfl) (by kernel_rfl) (by kernel_rfl) rfl rfl (Yd.mvS rfl) ?_
                  refine DJ.yd 7 rfl (by kernel_rfl) (by kernel_rfl) (by kernel_rfl) rfl rfl (Yd.mvI rfl) ?_
                  refine DJ.yd 8 rfl (by kernel_rfl) (by kernel_rfl) (by kernel_rfl) rfl rfl (Yd.mvI rfl) ?_
                  refine DJ.yd 9 rfl (by kernel_rfl) (by kernel_rfl) (by kernel_rfl) rfl rfl (Yd.sub rfl rfl (by unfold I64; omega)) ?_
                  refine DJ.idxR 0 rfl 10 rfl (by kernel_rfl) (by kernel_rfl) (by kernel_rfl) rfl rfl rfl rfl (by omega) (by first | rfl | omega | (simp; done) | (simp; omega) | (simp [upN_len]; omega) | (simp [idxBy_len]; omega) | (simp [marks_len]; omega) | (simp [upN_len]; done) | (simp [idxBy_len]; done) | (simp [marks_len]; done) | (simp at *; omega)) (by first | rfl | omega | (simp; done) | (simp; omega) | (simp [upN_len]; omega) | (simp [idxBy_len]; omega) | (simp [marks_len]; omega) | (simp [upN_len]; done) | (simp [idxBy_len]; done) | (simp [marks_len]; done) | (simp at *; omega)) (fun ib76 ia76 => ?_)
                  refine DJ.two (i := 5) (j := 11) (by kernel_rfl) ?_ ?_
                  · refine DO.ldR rfl rfl rfl 0 0 (fun u => vI u) (fun _ => rfl) rfl ia70 rfl rfl (by first | rfl | omega | (simp; done) | (simp; omega) | (simp [upN_len]; omega) | (simp [idxBy_len]; omega) | (simp [marks_len]; omega) | (simp [upN_len]; done) | (simp [idxBy_len]; done) | (simp [marks_len]; done) | (simp at *; omega)) (fun u71 hu71 => ?_)
                    try simp only [Int.toNat_natCast] at hu71
                    obtain rfl : v = u71 := by rw [hv] at hu71; exact Option.some.inj hu71
                    refine DJ.one (i := 11) (by kernel_rfl) ?_
                    refine DO.ldR rfl rfl rfl 0 0 (fun u => vI u) (fun _ => rfl) rfl ia76 rfl rfl (by first | rfl | omega | (simp; done) | (simp; omega) | (simp [upN_len]; omega) | (simp [idxBy_len]; omega) | (simp [marks_len]; omega) | (simp [upN_len]; done) | (simp [idxBy_len]; done) | (simp [marks_len]; done) | (simp at *; omega)) (fun u77 hu77 => ?_)
                    try simp only [Int.toNat_natCast] at hu77
                    have hsub77 : Sub g s := of_decide_eq_true h57
                    have hokg : okB l bar g = true := decide_eq_true (by omega)
                    obtain ⟨r77, hr77, hf77, hn77⟩ := hO (s - g) (by omega)
                    rw [show ((s : Int) - (g : Int)).toNat = s - g by omega, hO2 (s - g) (by omega), hr77] at hu77
                    obtain rfl : u77 = r77 := (Option.some.inj hu77).symm
                    have hb77 := hf77.bound (n := l.length) (by omega)
                    refine DJ.yd 12 rfl (by kernel_rfl) (by kernel_rfl) (by kernel_rfl) rfl rfl (Yd.add rfl rfl (by unfold I64; omega)) ?_
                    refine DJ.yd 13 rfl (by kernel_rfl) (by kernel_rfl) (by kernel_rfl) rfl rfl (Yd.min' rfl rfl) ?_
                    refine DJ.idxR 0 rfl 14 rfl (by kernel_rfl) (by kernel_rfl) (by kernel_rfl) rfl rfl rfl rfl (by omega) (by first | rfl | omega | (simp; done) | (simp; omega) | (simp [upN_len]; omega) | (simp [idxBy_len]; omega) | (simp [marks_len]; omega) | (simp [upN_len]; done) | (simp [idxBy_len]; done) | (simp [marks_len]; done) | (simp at *; omega)) (by first | rfl | omega | (simp; done) | (simp; omega) | (simp [upN_len]; omega) | (simp [idxBy_len]; omega) | (simp [marks_len]; omega) | (simp [upN_len]; done) | (simp [idxBy_len]; done) | (simp [marks_len]; done) | (simp at *; omega)) (fun ib80 ia80 => ?_)
                    refine DJ.one (i := 15) (by kernel_rfl) ?_
                    refine DO.op rfl rfl rfl (fun k0 hk0 dk0 => OpR.st1 (enc := encI) (e1 := fun u => vI u) 0 (fun _ => rfl) (fun _ => rfl) (fun _ => rfl) rfl ia80 rfl rfl rfl (by first | rfl | omega | (simp; done) | (simp; omega) | (simp [upN_len]; omega) | (simp [idxBy_len]; omega) | (simp [marks_len]; omega) | (simp [upN_len]; done) | (simp [idxBy_len]; done) | (simp [marks_len]; done) | (simp at *; omega))) ?_
                    rintro _ _ ⟨rfl, rfl⟩
                    refine DJ.norm [_] [_] rfl rfl ?_
                    refine DJ.done (by kernel_rfl) ?_
                    refine CJ.region ?_
                    refine LJ.yd rfl (Yd.mvI rfl) ?_
                    refine LJ.yd rfl (Yd.sub rfl rfl (by unfold I64; omega)) ?_
                    refine LJ.yd rfl (Yd.asI rfl) ?_
                    refine LJ.nil ?_
                    refine ⟨(g - 1, O2.set s (min v (1 + u77)), min v (1 + u77)), ?_, ⟨rfl, rfl, rfl, rfl, rfl, rfl, rfl, rfl, rfl, rfl, rfl, rfl, rfl, rfl, rfl, rfl, rfl, rfl, rfl, rfl, rfl, rfl, trivial⟩, ⟨congrArg vI (show ((g : Int) - 1) = ((g - 1 : Nat) : Int) by omega), trivial⟩, Ent.refl _, ?_⟩
                    · refine ⟨by omega, by simp [hO2l], fun t ht => by rw [List.getElem?_set_ne (by omega)]; exact hO2 t ht, by rw [List.getElem?_set_self (by omega)], low_next (by omega) ?_⟩
                      exact hlow.add (of_decide_eq_true h57) (by omega) hokg hf77 (by omega)
                    · first | omega | (dsimp only; omega) | (simp only []; omega)
                  · refine DO.ldR rfl rfl rfl 0 0 (fun u => vI u) (fun _ => rfl) rfl ia76 rfl rfl (by first | rfl | omega | (simp; done) | (simp; omega) | (simp [upN_len]; omega) | (simp [idxBy_len]; omega) | (simp [marks_len]; omega) | (simp [upN_len]; done) | (simp [idxBy_len]; done) | (simp [marks_len]; done) | (simp at *; omega)) (fun u77 hu77 => ?_)
                    try simp only [Int.toNat_natCast] at hu77
                    have hsub77 : Sub g s := of_decide_eq_true h57
                    have hokg : okB l bar g = true := decide_eq_true (by omega)
                    obtain ⟨r77, hr77, hf77, hn77⟩ := hO (s - g) (by omega)
                    rw [show ((s : Int) - (g : Int)).toNat = s - g by omega, hO2 (s - g) (by omega), hr77] at hu77
                    obtain rfl : u77 = r77 := (Option.some.inj hu77).symm
                    have hb77 := hf77.bound (n := l.length) (by omega)
                    refine DJ.yd 12 rfl (by kernel_rfl) (by kernel_rfl) (by kernel_rfl) rfl rfl (Yd.add rfl rfl (by unfold I64; omega)) ?_
                    refine DJ.one (i := 5) (by kernel_rfl) ?_
                    refine DO.ldR rfl rfl rfl 0 0 (fun u => vI u) (fun _ => rfl) rfl ia70 rfl rfl (by first | rfl | omega | (simp; done) | (simp; omega) | (simp [upN_len]; omega) | (simp [idxBy_len]; omega) | (simp [marks_len]; omega) | (simp [upN_len]; done) | (simp [idxBy_len]; done) | (simp [marks_len]; done) | (simp at *; omega)) (fun u71 hu71 => ?_)
                    try simp only [Int.toNat_natCast] at hu71
                    obtain rfl : v = u71 := by rw [hv] at hu71; exact Option.some.inj hu71
                    refine DJ.yd 13 rfl (by kernel_rfl) (by kernel_rfl) (by kernel_rfl) rfl rfl (Yd.min' rfl rfl) ?_
                    refine DJ.idxR 0 rfl 14 rfl (by kernel_rfl) (by kernel_rfl) (by kernel_rfl) rfl rfl rfl rfl (by omega) (by first | rfl | omega | (simp; done) | (simp; omega) | (simp [upN_len]; omega) | (simp [idxBy_len]; omega) | (simp [marks_len]; omega) | (simp [upN_len]; done) | (simp [idxBy_len]; done) | (simp [marks_len]; done) | (simp at *; omega)) (by first | rfl | omega | (simp; done) | (simp; omega) | (simp [upN_len]; omega) | (simp [idxBy_len]; omega) | (simp [marks_len]; omega) | (simp [upN_len]; done) | (simp [idxBy_len]; done) | (simp [marks_len]; done) | (simp at *; omega)) (fun ib80 ia80 => ?_)
                    refine DJ.one (i := 15) (by kernel_rfl) ?_
                    refine DO.op rfl rfl rfl (fun k0 hk0 dk0 => OpR.st1 (enc := encI) (e1 := fun u => vI u) 0 (fun _ => rfl) (fun _ => rfl) (fun _ => rfl) rfl ia80 rfl rfl rfl (by first | rfl | omega | (simp; done) | (simp; omega) | (simp [upN_len]; omega) | (simp [idxBy_len]; omega) | (simp [marks_len]; omega) | (simp [upN_len]; done) | (simp [idxBy_len]; done) | (simp [marks_len]; done) | (simp at *; omega))) ?_
                    rintro _ _ ⟨rfl, rfl⟩
                    refine DJ.norm [_] [_] rfl rfl ?_
                    refine DJ.done (by kernel_rfl) ?_
                    refine CJ.region ?_
                    refine LJ.yd rfl (Yd.mvI rfl) ?_
                    refine LJ.yd rfl (Yd.sub rfl rfl (by unfold I64; omega)) ?_
                    refine LJ.yd rfl (Yd.asI rfl) ?_
                    refine LJ.nil ?_
                    refine ⟨(g - 1, O2.set s (min v (1 + u77)), min v (1 + u77)), ?_, ⟨rfl, rfl, rfl, rfl, rfl, rfl, rfl, rfl, rfl, rfl, rfl, rfl, rfl, rfl, rfl, rfl, rfl, rfl, rfl, rfl, rfl, rfl, trivial⟩, ⟨congrArg vI (show ((g : Int) - 1) = ((g - 1 : Nat) : Int) by omega), trivial⟩, Ent.refl _, ?_⟩
                    · refine ⟨by omega, by simp [hO2l], fun t ht => by rw [List.getElem?_set_ne (by omega)]; exact hO2 t ht, by rw [List.getElem?_set_self (by omega)], low_next (by omega) ?_⟩
                      exact hlow.add (of_decide_eq_true h57) (by omega) hokg hf77 (by omega)
                    · first | omega | (dsimp only; omega) | (simp only []; omega)
                · refine LJ.yd rfl (Yd.pickTB rfl rfl) ?_
                  refine LJ.nil ?_
                  refine CJ.condF rfl ?_
                  refine CJ.skip ?_
                  refine CJ.region ?_
                  refine LJ.yd rfl (Yd.mvI rfl) ?_
                  refine LJ.yd rfl (Yd.sub rfl rfl (by unfold I64; omega)) ?_
                  refine LJ.yd rfl (Yd.asI rfl) ?_
                  refine LJ.nil ?_
                  refine ⟨(g - 1, O2, v), ?_, ⟨rfl, rfl, rfl, rfl, rfl, rfl, rfl, rfl, rfl, rfl, rfl, rfl, rfl, rfl, rfl, rfl, rfl, rfl, rfl, rfl, rfl, rfl, trivial⟩, ⟨congrArg vI (show ((g : Int) - 1) = ((g - 1 : Nat) : Int) by omega), trivial⟩, Ent.refl _, ?_⟩
                  · refine ⟨by omega, hO2l, hO2, hv, low_next (by omega) ?_⟩
                    exact hlow.skip fun h1 _ h2 => by first | exact of_decide_eq_false h57 h1 | exact h64 (by rw [← hs62]; exact of_decide_eq_true h2)
                  · first | omega | (dsimp only; omega) | (simp only []; omega)
              · refine LJ.yd rfl (Yd.mvB rfl) ?_
                refine LJ.gF rfl rfl ?_
                refine LJ.gF rfl rfl ?_
                refine LJ.gF rfl rfl ?_
                refine LJ.gF rfl rfl ?_
                refine LJ.gF rfl rfl ?_
                refine LJ.gF rfl rfl ?_
                refine LJ.yd rfl (Yd.pickFB rfl rfl) ?_
                refine LJ.nil ?_
                refine CJ.condF rfl ?_
                refine CJ.skip ?_
                refine CJ.region ?_
                refine LJ.yd rfl (Yd.mvI rfl) ?_
                refine LJ.yd rfl (Yd.sub rfl rfl (by unfold I64; omega)) ?_
                refine LJ.yd rfl (Yd.asI rfl) ?_
                refine LJ.nil ?_
                refine ⟨(g - 1, O2, v), ?_, ⟨rfl, rfl, rfl, rfl, rfl, rfl, rfl, rfl, rfl, rfl, rfl, rfl, rfl, rfl, rfl, rfl, rfl, rfl, rfl, rfl, rfl, rfl, trivial⟩, ⟨congrArg vI (show ((g : Int) - 1) = ((g - 1 : Nat) : Int) by omega), trivial⟩, Ent.refl _, ?_⟩
                · refine ⟨by omega, hO2l, hO2, hv, low_next (by omega) ?_⟩
                  exact hlow.skip fun h1 _ h2 => by first | exact of_decide_eq_false h57 h1 | exact h64 (by rw [← hs62]; exact of_decide_eq_true h2)
                · first | omega | (dsimp only; omega) | (simp only []; omega)
            · refine LJ.nil ?_
              refine CJ.condF rfl ?_
              refine CJ.exit ?_
              refine CJ.region ?_
              refine LJ.yd rfl (Yd.mvI rfl) ?_
              refine LJ.yd rfl (Yd.add rfl rfl (by unfold I64; omega)) ?_
              refine LJ.yd rfl (Yd.asI rfl) ?_
              refine LJ.nil ?_
              refine ⟨(s + 1, M2, O2), ?_, ⟨rfl, rfl, rfl, rfl, rfl, rfl, trivial⟩, ⟨rfl, trivial⟩, Ent.refl _, ?_⟩
              · refine ⟨by omega, ?_⟩
                refine ⟨by omega, ⟨hM2l, hO2l⟩, fun t ht => ?_, fun t ht => ?_⟩
                · by_cases e : t = s
                  · subst e; rw [if_pos (by omega)]; exact hM3
                  · rw [hM2 t ht e, hM t ht]
                    by_cases h2 : t < s
                    · rw [if_pos h2, if_pos (by omega)]
                    · rw [if_neg h2, if_neg (by omega)]
                · by_cases e : t = s
                  · subst e
                    obtain ⟨d1, d2⟩ := hlow.done (n := l.length) hone (by omega) (by omega) (by omega) (fun x _ hx => by omega)
                    exact ⟨v, hv, d1, d2⟩
                  · rw [hO2 t (by omega)]; exact hO t (by omega)
              · first | omega | (dsimp only; omega) | (simp only []; omega)
    · refine LJ.nil ?_
      refine CJ.condF rfl ?_
      refine CJ.exit ?_
      refine CJ.seq ?_
      refine CJ.region ?_
      refine LJ.yd rfl (Yd.mvS rfl) ?_
      refine LJ.yd rfl (Yd.asS rfl) ?_
      refine LJ.nil ?_
      refine CJ.ret ?_
      refine Fin.R [_] (Res.one (ResV.tmp (v := .slice _ _ _) rfl)) ⟨_, _, O, by rw [hOl], rfl, hOl, fun t ht => ?_⟩ (Ent.pick [1] [0] rfl)
      obtain ⟨v, h1, h2, _⟩ := hO t (by omega)
      rw [h1, h2.eq]
end Go.Proofs.Ytkojheinklgdeaa
