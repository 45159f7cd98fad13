/-
  Contracts: first fit as the program does it; the four functions on bars.
-/
import Derived.Test.YtkojheinklgdeaaA5
namespace Go.Proofs.Ytkojheinklgdeaa
open Go
set_option maxRecDepth 20000
set_option maxHeartbeats 1000000

theorem full_get {s : List Int} {n j : Nat} {u : Int} (hs : s.length < n) (hj : j ≤ s.length) (hu : (s ++ List.replicate (n - s.length) (0 : Int))[j]? = some u) : s[j]? = some u ∨ (j = s.length ∧ u = 0) := by
  rw [List.getElem?_append] at hu
  split at hu
  · exact .inl hu
  · right
    rw [List.getElem?_replicate] at hu
    split at hu
    · cases hu; exact ⟨by omega, rfl⟩
    · cases hu
theorem full_step {s : List Int} {n j : Nat} {u x bar : Int} (hj : j = fB x bar s) (hs : s.length < n) (hu : (s ++ List.replicate (n - s.length) (0 : Int))[j]? = some u) :
    (s ++ List.replicate (n - s.length) (0 : Int)).set j (u + x) = fS x bar s ++ List.replicate (n - (fS x bar s).length) 0 := by
  have hle := fB_le x bar s
  rcases full_get hs (by omega) hu with h | ⟨h1, h2⟩
  · have hlt := ltC h
    rw [List.set_append_left _ _ hlt, fS_len, if_neg (by omega), hj, ← fS_old (by rw [← hj]; exact h)]
  · subst h2
    obtain ⟨m, rfl⟩ : ∃ m, n = s.length + 1 + m := ⟨n - s.length - 1, by omega⟩
    rw [fS_new (by omega), List.set_append_right _ _ (by omega), show j - s.length = 0 by omega, show s.length + 1 + m - s.length = m + 1 by omega, List.replicate_succ, List.set_cons_zero, List.length_append]
    simp
theorem fitInOrder_ok {A : Amb} {v w : Value} {l order : List Int} {bar : Int} (hl : RdL encI 1 A.h v l) (ho : RdL encI 1 A.h w order) (hb0 : 0 ≤ bar) (hb : bar ≤ 1000) (hm : ∀ u ∈ l, 1 ≤ u ∧ u ≤ bar) (hi : ∀ i ∈ order, 0 ≤ i ∧ i < l.length) (hn : l.length ≤ 1000) (hn2 : order.length ≤ l.length) :
    Ctr Try.prog 62 #[v, vI bar, w] A [] (RLP encI 3 1 (ffit l bar order)) := by
  obtain ⟨la, lc, rfl, hlb, hl⟩ := hl.un
  obtain ⟨oa, oc, rfl, hob, ho⟩ := ho.un
  refine Ctr.body (args := [_, _, _]) Try.func62 rfl Try.ntmps62 Try.results62 (by simp) ?_
  refine CJ.seq ?_
  refine CJ.region ?_
  refine LJ.yd rfl (Yd.asS rfl) ?_
  refine LJ.nil ?_
  refine CJ.seq ?_
  refine CJ.region ?_
  refine LJ.yd rfl (Yd.mvS rfl) ?_
  refine LJ.yd rfl (Yd.len rfl) ?_
  refine LJ.op rfl (OpR.mk (enc := encI) (0 : Int) (m := l.length) rfl rfl rfl (by first | rfl | omega | (simp; done) | (simp; omega) | (simp [upN_len]; omega) | (simp [idxBy_len]; omega) | (simp [marks_len]; omega) | (simp [upN_len]; done) | (simp [idxBy_len]; done) | (simp [marks_len]; done) | (simp at *; omega))) ?_
  rintro _ _ ⟨g14, rfl, rfl⟩
  refine LJ.norm [_] rfl ?_
  refine LJ.yd rfl (Yd.asS rfl) ?_
  refine LJ.nil ?_
  refine CJ.seq ?_
  refine CJ.region ?_
  refine LJ.yd rfl (Yd.mvS rfl) ?_
  refine LJ.yd rfl (Yd.len rfl) ?_
  refine LJ.op rfl (OpR.mk (enc := encI) (0 : Int) (m := l.length) rfl rfl rfl (by first | rfl | omega | (simp; done) | (simp; omega) | (simp [upN_len]; omega) | (simp [idxBy_len]; omega) | (simp [marks_len]; omega) | (simp [upN_len]; done) | (simp [idxBy_len]; done) | (simp [marks_len]; done) | (simp at *; omega))) ?_
  rintro _ _ ⟨g17, rfl, rfl⟩
  refine LJ.norm [_, _] rfl ?_
  refine LJ.yd rfl (Yd.asS rfl) ?_
  refine LJ.nil ?_
  refine CJ.seq ?_
  refine CJ.seq ?_
  refine CJ.region ?_
  refine LJ.yd rfl (Yd.mvS rfl) ?_
  refine LJ.yd rfl (Yd.len rfl) ?_
  refine LJ.yd rfl (Yd.mvI rfl) ?_
  refine LJ.nil ?_
  refine CJ.block ?_
  refine CJ.loopF [0, 1, 6, 7, 8, 18, 19] (Nat × List Int × List Int) (fun ⟨k, o, s⟩ => k ≤ order.length ∧ ffGo l bar (order.drop k) s o = ffGo l bar order [] (List.replicate l.length 0) ∧ o.length = l.length ∧ s.length ≤ k ∧ ∀ u ∈ s, 1 ≤ u ∧ u ≤ bar) (fun ⟨k, o, s⟩ => [(20, vI k)]) (fun ⟨k, o, s⟩ => [LR encI 3 1 (some ⟨g14, 0, none⟩) l.length o, LR encI 3 1 (some ⟨g17, 0, none⟩) l.length (s ++ List.replicate (l.length - s.length) 0)]) (fun ⟨k, o, s⟩ => order.length - k) (0, List.replicate l.length 0, []) [] [] [0, 1] rfl rfl rfl ?_ ⟨rfl, trivial⟩ ?_
  · exact ⟨by omega, rfl, by simp, by simp, by simp⟩
  · rintro ⟨k, o, s⟩ σ ⟨hk1, hg, hol, hsl, hsm⟩
    refine CJ.norm [_, _] rfl ?_
    refine CJ.seq ?_
    refine CJ.region ?_
    refine LJ.splitD rfl (Yd.lss rfl rfl) (fun h21 => ?_) (fun h21 => ?_)
    · refine LJ.nil ?_
      refine CJ.seq ?_
      refine CJ.condT rfl ?_
      refine CJ.skip ?_
      refine CJ.seq ?_
      refine CJ.block ?_
      refine CJ.seq ?_
      refine CJ.region ?_
      refine LJ.idxA rfl ho rfl rfl (by omega) (by first | rfl | omega | (simp; done) | (simp; omega) | (simp [upN_len]; omega) | (simp [idxBy_len]; omega) | (simp [marks_len]; omega) | (simp [upN_len]; done) | (simp [idxBy_len]; done) | (simp [marks_len]; done) | (simp at *; omega)) (fun ib22 io22 ia22 ir22 => ?_)
      refine LJ.ldA 0 (fun u => vI u) (fun _ => rfl) ir22 rfl rfl rfl (by first | rfl | omega | (simp; done) | (simp; omega) | (simp [upN_len]; omega) | (simp [idxBy_len]; omega) | (simp [marks_len]; omega) | (simp [upN_len]; done) | (simp [idxBy_len]; done) | (simp [marks_len]; done) | (simp at *; omega)) (fun u23 hu23 => ?_)
      try simp only [Int.toNat_natCast] at hu23
      have hf23 := hi u23 (List.mem_of_getElem? hu23)
      refine LJ.yd rfl (Yd.asI rfl) ?_
      refine LJ.nil ?_
      refine CJ.seq ?_
      refine CJ.region ?_
      refine LJ.yd rfl (Yd.asI rfl) ?_
      refine LJ.nil ?_
      refine CJ.seqK [0, 1, 6, 7, 8, 10, 18, 19, 20, 21, 22, 23] Nat (fun j => j = fB (gt l u23) bar s) (fun j => [(11, vI j)]) ?_ ?_
      · refine CJ.block ?_
        refine CJ.loopK [0, 1, 6, 7, 8, 10, 18, 19, 20, 21, 22, 23] Nat (fun j => j ≤ s.length ∧ j + fB (gt l u23) bar (s.drop j) = fB (gt l u23) bar s) (fun j => [(11, vI j)]) (fun j => s.length - j) (0) ?_ ⟨rfl, trivial⟩ ?_
        · exact ⟨by omega, by simp⟩
        · rintro j σ ⟨hj, hj2⟩
          refine CJ.seq ?_
          refine CJ.seq ?_
          refine CJ.regionD [0, 1] [] (by kernel_rfl) rfl ?_
          refine DJ.norm [_, _] [] rfl rfl ?_
          refine DJ.yd 0 rfl (by kernel_rfl) (by kernel_rfl) (by kernel_rfl) rfl rfl (Yd.mvS rfl) ?_
          refine DJ.yd 1 rfl (by kernel_rfl) (by kernel_rfl) (by kernel_rfl) rfl rfl (Yd.mvI rfl) ?_
          refine DJ.idxF 1 rfl 2 rfl (by kernel_rfl) (by kernel_rfl) (by kernel_rfl) rfl rfl rfl rfl (by omega) (by simp; omega) (by simp; omega) (fun ib26 ia26 => ?_)
          refine DJ.ldF 3 rfl (by kernel_rfl) (by kernel_rfl) (by kernel_rfl) rfl rfl 1 0 (fun u => vI u) (fun _ => rfl) rfl ia26 rfl rfl (by simp; omega) (fun u27 hu27 => ?_)
          try simp only [Int.toNat_natCast] at hu27
          have hf27 := full_get (by omega) hj hu27
          have hf27' : 0 ≤ u27 ∧ u27 ≤ bar := by
            rcases hf27 with h | ⟨h1, h2⟩
            · have := hsm u27 (List.mem_of_getElem? h); omega
            · omega
          refine DJ.yd 4 rfl (by kernel_rfl) (by kernel_rfl) (by kernel_rfl) rfl rfl (Yd.mvS rfl) ?_
          refine DJ.yd 5 rfl (by kernel_rfl) (by kernel_rfl) (by kernel_rfl) rfl rfl (Yd.mvI rfl) ?_
          refine DJ.idxA 6 rfl (by kernel_rfl) (by kernel_rfl) (by kernel_rfl) rfl rfl hl rfl rfl (by omega) (by first | rfl | omega | (simp; done) | (simp; omega) | (simp [upN_len]; omega) | (simp [idxBy_len]; omega) | (simp [marks_len]; omega) | (simp [upN_len]; done) | (simp [idxBy_len]; done) | (simp [marks_len]; done) | (simp at *; omega)) (fun ib30 io30 ia30 ir30 => ?_)
          refine DJ.ldA 7 rfl (by kernel_rfl) (by kernel_rfl) (by kernel_rfl) rfl rfl 0 (fun u => vI u) (fun _ => rfl) ir30 rfl rfl (by first | rfl | omega | (simp; done) | (simp; omega) | (simp [upN_len]; omega) | (simp [idxBy_len]; omega) | (simp [marks_len]; omega) | (simp [upN_len]; done) | (simp [idxBy_len]; done) | (simp [marks_len]; done) | (simp at *; omega)) (fun u31 hu31 => ?_)
          try simp only [Int.toNat_natCast] at hu31
          have hf31 := hm u31 (List.mem_of_getElem? hu31)
          refine DJ.yd 8 rfl (by kernel_rfl) (by kernel_rfl) (by kernel_rfl) rfl rfl (Yd.add rfl rfl (by unfold I64; omega)) ?_
          refine DJ.yd 9 rfl (by kernel_rfl) (by kernel_rfl) (by kernel_rfl) rfl rfl (Yd.mvI rfl) ?_
          refine DJ.splitD 10 rfl (by kernel_rfl) (by kernel_rfl) (by kernel_rfl) rfl rfl (Yd.gtr rfl rfl) (fun h34 => ?_) (fun h34 => ?_)
          · refine DJ.done (by kernel_rfl) ?_
            refine CJ.condT rfl ?_
            refine CJ.skip ?_
            refine CJ.block ?_
            refine CJ.region ?_
            refine LJ.yd rfl (Yd.mvI rfl) ?_
            refine LJ.yd rfl (Yd.add rfl rfl (by unfold I64; omega)) ?_
            refine LJ.yd rfl (Yd.asI rfl) ?_
            refine LJ.nil ?_
            refine ⟨(j + 1), ?_, ⟨rfl, rfl, rfl, rfl, rfl, rfl, rfl, rfl, rfl, rfl, rfl, rfl, trivial⟩, ⟨rfl, trivial⟩, Ent.refl _, ?_⟩
            · rcases hf27 with h | ⟨h1, h2⟩
              · have := ltC h
                exact ⟨by omega, fB_next hj2 h (by rw [gtC hu31]; exact h34)⟩
              · omega
            · rcases hf27 with h | ⟨h1, h2⟩
              · have := ltC h
                first | omega | (dsimp only; omega)
              · omega
          · refine DJ.done (by kernel_rfl) ?_
            refine CJ.condF rfl ?_
            refine CJ.exit ?_
            refine ⟨j, ?_, ?_, ?_, Ent.refl _⟩
            · rcases hf27 with h | ⟨h1, h2⟩
              · exact fB_stop hj2 h (by rw [gtC hu31]; exact h34)
              · rw [List.drop_of_length_le (by omega)] at hj2; simpa [fB] using hj2
            · exact ⟨rfl, rfl, rfl, rfl, rfl, rfl, rfl, rfl, rfl, rfl, rfl, rfl, trivial⟩
            · exact ⟨rfl, trivial⟩
      · rintro j σ hjb
        refine CJ.seq ?_
        refine CJ.regionD [0] [1] (by kernel_rfl) rfl ?_
        refine DJ.norm [_] [_] rfl rfl ?_
        refine DJ.yd 0 rfl (by kernel_rfl) (by kernel_rfl) (by kernel_rfl) rfl rfl (Yd.mvS rfl) ?_
        refine DJ.yd 1 rfl (by kernel_rfl) (by kernel_rfl) (by kernel_rfl) rfl rfl (Yd.mvI rfl) ?_
        refine DJ.idxR 0 rfl 2 rfl (by kernel_rfl) (by kernel_rfl) (by kernel_rfl) rfl rfl rfl rfl (by omega) (by have := fB_le (gt l u23) bar s; omega) (by have := fB_le (gt l u23) bar s; simp; omega) (fun ib39 ia39 => ?_)
        refine DJ.yd 4 rfl (by kernel_rfl) (by kernel_rfl) (by kernel_rfl) rfl rfl (Yd.mvS rfl) ?_
        refine DJ.yd 5 rfl (by kernel_rfl) (by kernel_rfl) (by kernel_rfl) rfl rfl (Yd.mvI rfl) ?_
        refine DJ.idxA 6 rfl (by kernel_rfl) (by kernel_rfl) (by kernel_rfl) rfl rfl hl rfl rfl (by omega) (by first | rfl | omega | (simp; done) | (simp; omega) | (simp [upN_len]; omega) | (simp [idxBy_len]; omega) | (simp [marks_len]; omega) | (simp [upN_len]; done) | (simp [idxBy_len]; done) | (simp [marks_len]; done) | (simp at *; omega)) (fun ib43 io43 ia43 ir43 => ?_)
        refine DJ.ldA 7 rfl (by kernel_rfl) (by kernel_rfl) (by kernel_rfl) rfl rfl 0 (fun u => vI u) (fun _ => rfl) ir43 rfl rfl (by first | rfl | omega | (simp; done) | (simp; omega) | (simp [upN_len]; omega) | (simp [idxBy_len]; omega) | (simp [marks_len]; omega) | (simp [upN_len]; done) | (simp [idxBy_len]; done) | (simp [marks_len]; done) | (simp at *; omega)) (fun u44 hu44 => ?_)
        try simp only [Int.toNat_natCast] at hu44
        have hf44 := hm u44 (List.mem_of_getElem? hu44)
        refine DJ.one (i := 3) (by kernel_rfl) ?_
        refine DO.ldR rfl rfl rfl 0 0 (fun u => vI u) (fun _ => rfl) rfl ia39 rfl rfl (by have := fB_le (gt l u23) bar s; simp; omega) (fun u40 hu40 => ?_)
        try simp only [Int.toNat_natCast] at hu40
        have hf40 := full_get (by omega) (by have := fB_le (gt l u23) bar s; omega) hu40
        have hf40' : 0 ≤ u40 ∧ u40 ≤ bar := by
          rcases hf40 with h | ⟨h1, h2⟩
          · have := hsm u40 (List.mem_of_getElem? h); omega
          · omega
        refine DJ.yd 8 rfl (by kernel_rfl) (by kernel_rfl) (by kernel_rfl) rfl rfl (Yd.add rfl rfl (by unfold I64; omega)) ?_
        refine DJ.idxR 0 rfl 9 rfl (by kernel_rfl) (by kernel_rfl) (by kernel_rfl) rfl rfl rfl rfl (by omega) (by have := fB_le (gt l u23) bar s; omega) (by have := fB_le (gt l u23) bar s; simp; omega) (fun ib46 ia46 => ?_)
        refine DJ.one (i := 10) (by kernel_rfl) ?_
        refine DO.op rfl rfl rfl (fun k0 hk0 dk0 => OpR.st1 (enc := encI) (e1 := fun u => vI u) 0 (fun _ => rfl) (fun _ => rfl) (fun _ => rfl) rfl ia46 rfl rfl rfl (by have := fB_le (gt l u23) bar s; simp; omega)) ?_
        rintro _ _ ⟨rfl, rfl⟩
        refine DJ.norm [_] [_] rfl rfl ?_
        refine DJ.done (by kernel_rfl) ?_
        have e9 : (s ++ List.replicate (l.length - s.length) (0 : Int)).set (j : Int).toNat (u40 + u44) = fS (gt l u23) bar s ++ List.replicate (l.length - (fS (gt l u23) bar s).length) 0 := by
          rw [← full_step hjb (by omega) hu40, gtC hu44]; rfl
        rw [e9]
        refine CJ.region ?_
        refine LJ.yd rfl (Yd.mvS rfl) ?_
        refine LJ.yd rfl (Yd.mvI rfl) ?_
        refine LJ.yd rfl (Yd.mvI rfl) ?_
        refine LJ.idxR 0 rfl rfl rfl rfl (by omega) (by first | rfl | omega | (simp; done) | (simp; omega) | (simp [upN_len]; omega) | (simp [idxBy_len]; omega) | (simp [marks_len]; omega) | (simp [upN_len]; done) | (simp [idxBy_len]; done) | (simp [marks_len]; done) | (simp at *; omega)) (by first | rfl | omega | (simp; done) | (simp; omega) | (simp [upN_len]; omega) | (simp [idxBy_len]; omega) | (simp [marks_len]; omega) | (simp [upN_len]; done) | (simp [idxBy_len]; done) | (simp [marks_len]; done) | (simp at *; omega)) (fun ib50 ia50 => ?_)
        refine LJ.op rfl (OpR.st1 (enc := encI) (e1 := fun u => vI u) 0 (fun _ => rfl) (fun _ => rfl) (fun _ => rfl) rfl ia50 rfl rfl rfl (by first | rfl | omega | (simp; done) | (simp; omega) | (simp [upN_len]; omega) | (simp [idxBy_len]; omega) | (simp [marks_len]; omega) | (simp [upN_len]; done) | (simp [idxBy_len]; done) | (simp [marks_len]; done) | (simp at *; omega))) ?_
        rintro _ _ ⟨rfl, rfl⟩
        refine LJ.norm [_, _] rfl ?_
        refine LJ.nil ?_
        refine CJ.region ?_
        refine LJ.yd rfl (Yd.add rfl rfl (by unfold I64; omega)) ?_
        refine LJ.yd rfl (Yd.mvI rfl) ?_
        refine LJ.nil ?_
        refine ⟨(k + 1, _, _), ?_, ⟨rfl, rfl, rfl, rfl, rfl, rfl, rfl, trivial⟩, ⟨rfl, trivial⟩, Ent.refl _, ?_⟩
        · refine ⟨by omega, ?_⟩
          have e48 : gt l u23 = u44 := gtC hu44
          have e49 : u23 = u23 := rfl
          rw [dropC hu23, ffGo, ← hjb] at hg
          refine ⟨hg, by simp [hol], ?_, fS_mem (by omega) (by omega) hsm⟩
          rw [fS_len]; have := fB_le (gt l u23) bar s; split <;> omega
        · first | omega | (dsimp only; omega) | (simp only []; omega)
    · refine LJ.nil ?_
      refine CJ.seq ?_
      refine CJ.condF rfl ?_
      refine CJ.exit ?_
      refine CJ.seq ?_
      refine CJ.region ?_
      refine LJ.yd rfl (Yd.mvS rfl) ?_
      refine LJ.yd rfl (Yd.asS rfl) ?_
      refine LJ.nil ?_
      refine CJ.ret ?_
      refine Fin.RL 0 (Res.one (ResV.tmp (v := .slice _ _ _) rfl)) rfl (by first | rfl | omega | (simp; done) | (simp; omega) | (simp [upN_len]; omega) | (simp [idxBy_len]; omega) | (simp [marks_len]; omega) | (simp [upN_len]; done) | (simp [idxBy_len]; done) | (simp [marks_len]; done) | (simp at *; omega)) ?_
      rw [List.drop_of_length_le (by omega), ffGo] at hg; exact congrArg Prod.snd hg
theorem FirstFitDownI_ok {A : Amb} {v : Value} {l : List Int} {bar : Int} (hl : RdL encI 1 A.h v l) : Ctr Try.prog 23 #[v, vI bar] A [] (RLP encI 3 1 (if barsOk 20 l bar = true then ffit l bar (idxBy (ltF l) l.length) else [])) := by
  obtain ⟨la, lc, rfl, hlb, hl⟩ := hl.un
  refine Ctr.body (args := [_, _]) Try.func23 rfl Try.ntmps23 Try.results23 (by simp) ?_
  refine CJ.seq ?_
  refine CJ.region ?_
  refine LJ.yd rfl (Yd.asS rfl) ?_
  refine LJ.nil ?_
  refine CJ.seq ?_
  refine CJ.seq ?_
  refine CJ.region ?_
  refine LJ.yd rfl (Yd.mvS rfl) ?_
  refine LJ.yd rfl (Yd.mvI rfl) ?_
  refine LJ.callB rfl (fun k hk dk => barLengths_ok (RdRow.up hl)) (fun h7 => ?_) (fun h7 => ?_)
  · refine LJ.yd rfl (Yd.not rfl) ?_
    refine LJ.nil ?_
    refine CJ.condF rfl ?_
    refine CJ.skip ?_
    refine CJ.seq ?_
    have hbo := barsOk_iff.1 h7
    refine CJ.region ?_
    refine LJ.yd rfl (Yd.mvS rfl) ?_
    refine LJ.yd rfl (Yd.mvI rfl) ?_
    refine LJ.yd rfl (Yd.mvS rfl) ?_
    refine LJ.call0 rfl (fun k hk dk => fallingI_ok (RdRow.up hl) (fun u hu => by have := hbo.2 u hu; omega) (by omega)) ?_
    rintro _ _ ⟨ra12, rc12, rfl, rfl⟩
    refine LJ.norm [_] rfl ?_
    refine LJ.call0 rfl (fun k hk dk => fitInOrder_ok (RdRow.up hl) (Sts.lrm hk dk 0 (by first | rfl | omega | (simp; done) | (simp; omega) | (simp [upN_len]; omega) | (simp [idxBy_len]; omega) | (simp [marks_len]; omega) | (simp [upN_len]; done) | (simp [idxBy_len]; done) | (simp [marks_len]; done) | (simp at *; omega)) (by first | rfl | omega | (simp; done) | (simp; omega) | (simp [upN_len]; omega) | (simp [idxBy_len]; omega) | (simp [marks_len]; omega) | (simp [upN_len]; done) | (simp [idxBy_len]; done) | (simp [marks_len]; done) | (simp at *; omega)) rfl) (by omega) (by omega) hbo.2 (fun i hi => idxBy_mem.1 hi) (by omega) (by rw [idxBy_len]; omega)) ?_
    rintro _ _ ⟨ra13, rc13, rfl, rfl⟩
    refine LJ.norm [_, _] rfl ?_
    refine LJ.yd rfl (Yd.asS rfl) ?_
    refine LJ.nil ?_
    refine CJ.ret ?_
    refine Fin.RL 1 (Res.one (ResV.tmp (v := .slice _ _ _) rfl)) rfl (by first | rfl | omega | (simp; done) | (simp; omega) | (simp [upN_len]; omega) | (simp [idxBy_len]; omega) | (simp [marks_len]; omega) | (simp [upN_len]; done) | (simp [idxBy_len]; done) | (simp [marks_len]; done) | (simp at *; omega)) ?_
    simp [h7]
  · refine LJ.yd rfl (Yd.not rfl) ?_
    refine LJ.nil ?_
    refine CJ.condT rfl ?_
    refine CJ.seq ?_
    refine CJ.region ?_
    refine LJ.yd rfl (Yd.asS rfl) ?_
    refine LJ.nil ?_
    refine CJ.ret ?_
    refine Fin.RN (Res.one (ResV.tmp (v := .slice _ _ _) rfl)) ?_
    simp [h7]
/-- the order that is there already -/
theorem ins_lt {x : Int} {p : List Int} (h : ∀ y ∈ p, y < x) (lt : Int → Int → Bool) (hlt : ∀ y ∈ p, lt x y = false) : ins lt x p = x :: p := by
  cases p with
  | nil => rfl
  | cons y r => rw [ins, if_neg (by rw [hlt y List.mem_cons_self]; simp)]
theorem idxBy_id (n : Nat) : idxBy (fun x y => decide (x < y)) n = upN n := by
  induction n with
  | zero => rfl
  | succ n ih =>
    rw [idxBy_succ, ih, ins_lt (fun y hy => (upN_mem.1 (List.mem_reverse.1 hy)).2), upN_succ]
    · simp
    · intro y hy; have := (upN_mem.1 (List.mem_reverse.1 hy)).2; simp; omega
theorem idCmp (A : Amb) (n : Nat) (hn : n ≤ 1000) : Cmp A 64 [] (fun x => 0 ≤ x ∧ x < n) (fun x y => decide (x < y)) := by
  intro B hB x y hx hy
  refine Ctr.body (args := [_, _]) Try.func64 rfl Try.ntmps64 Try.results64 (by simp) ?_
  refine CJ.seq ?_
  refine CJ.region ?_
  refine LJ.yd rfl (Yd.asI rfl) ?_
  refine LJ.nil ?_
  refine CJ.seq ?_
  refine CJ.region ?_
  refine LJ.yd rfl (Yd.mvI rfl) ?_
  refine LJ.yd rfl (Yd.mvI rfl) ?_
  refine LJ.yd rfl (Yd.sub rfl rfl (by unfold I64; omega)) ?_
  refine LJ.yd rfl (Yd.asI rfl) ?_
  refine LJ.nil ?_
  refine CJ.ret ?_
  exact Fin.R [] (Res.one (ResV.tmp (v := .int _ _) rfl)) ⟨_, rfl, rfl, by rw [decide_eq_true_iff]; omega⟩ (Ent.refl _)
theorem FirstFitI_ok {A : Amb} {v : Value} {l : List Int} {bar : Int} (hl : RdL encI 1 A.h v l) : Ctr Try.prog 22 #[v, vI bar] A [] (RLP encI 3 1 (if barsOk 20 l bar = true then ffit l bar (upN l.length) else [])) := by
  obtain ⟨la, lc, rfl, hlb, hl⟩ := hl.un
  refine Ctr.body (args := [_, _]) Try.func22 rfl Try.ntmps22 Try.results22 (by simp) ?_
  refine CJ.seq ?_
  refine CJ.region ?_
  refine LJ.yd rfl (Yd.asS rfl) ?_
  refine LJ.nil ?_
  refine CJ.seq ?_
  refine CJ.seq ?_
  refine CJ.region ?_
  refine LJ.yd rfl (Yd.mvS rfl) ?_
  refine LJ.yd rfl (Yd.mvI rfl) ?_
  refine LJ.callB rfl (fun k hk dk => barLengths_ok (RdRow.up hl)) (fun h7 => ?_) (fun h7 => ?_)
  · refine LJ.yd rfl (Yd.not rfl) ?_
    refine LJ.nil ?_
    refine CJ.condF rfl ?_
    refine CJ.skip ?_
    refine CJ.seq ?_
    have hbo := barsOk_iff.1 h7
    rw [← idxBy_id]
    refine CJ.region ?_
    refine LJ.yd rfl (Yd.mvS rfl) ?_
    refine LJ.yd rfl (Yd.mvI rfl) ?_
    refine LJ.yd rfl (Yd.mvS rfl) ?_
    refine LJ.yd rfl (Yd.len rfl) ?_
    refine LJ.call0 rfl (fun k hk dk => indicesBy_ok (idCmp _ _ (by omega)) (by omega)) ?_
    rintro _ _ ⟨ra13, rc13, rfl, rfl⟩
    refine LJ.norm [_] rfl ?_
    refine LJ.call0 rfl (fun k hk dk => fitInOrder_ok (RdRow.up hl) (Sts.lrm hk dk 0 (by first | rfl | omega | (simp; done) | (simp; omega) | (simp [upN_len]; omega) | (simp [idxBy_len]; omega) | (simp [marks_len]; omega) | (simp [upN_len]; done) | (simp [idxBy_len]; done) | (simp [marks_len]; done) | (simp at *; omega)) (by first | rfl | omega | (simp; done) | (simp; omega) | (simp [upN_len]; omega) | (simp [idxBy_len]; omega) | (simp [marks_len]; omega) | (simp [upN_len]; done) | (simp [idxBy_len]; done) | (simp [marks_len]; done) | (simp at *; omega)) rfl) (by omega) (by omega) hbo.2 (fun i hi => idxBy_mem.1 hi) (by omega) (by rw [idxBy_len]; omega)) ?_
    rintro _ _ ⟨ra14, rc14, rfl, rfl⟩
    refine LJ.norm [_, _] rfl ?_
    refine LJ.yd rfl (Yd.asS rfl) ?_
    refine LJ.nil ?_
    refine CJ.ret ?_
    refine Fin.RL 1 (Res.one (ResV.tmp (v := .slice _ _ _) rfl)) rfl (by first | rfl | omega | (simp; done) | (simp; omega) | (simp [upN_len]; omega) | (simp [idxBy_len]; omega) | (simp [marks_len]; omega) | (simp [upN_len]; done) | (simp [idxBy_len]; done) | (simp [marks_len]; done) | (simp at *; omega)) ?_
    simp [h7]
  · refine LJ.yd rfl (Yd.not rfl) ?_
    refine LJ.nil ?_
    refine CJ.condT rfl ?_
    refine CJ.seq ?_
    refine CJ.region ?_
    refine LJ.yd rfl (Yd.asS rfl) ?_
    refine LJ.nil ?_
    refine CJ.ret ?_
    refine Fin.RN (Res.one (ResV.tmp (v := .slice _ _ _) rfl)) ?_
    simp [h7]
end Go.Proofs.Ytkojheinklgdeaa
