/-
  Go's stable sort of the indices of up to 39 numbers, the least first.
-/
import Derived.Test.YtbgalcjkmgdaiaaS4
import Derived.Test.YtbgalcjkmgdaiaaM6
namespace Go.Proofs.Ytbgalcjkmgdaiaa
open Go
set_option maxRecDepth 20000
set_option maxHeartbeats 1000000

theorem upN_up : ∀ n : Nat, (upN n).Pairwise (· < ·)
  | 0 => by simp [upN]
  | n + 1 => by
    rw [upN_succ, List.pairwise_append]
    exact ⟨upN_up n, by simp, fun a ha b hb => by rw [List.mem_singleton.1 hb]; exact (upN_mem.1 ha).2⟩
theorem insAll_lex {b : List Int} : ∀ {r p : List Int}, r.Pairwise (· < ·) → (∀ x ∈ p, ∀ y ∈ r, x < y) → p.Pairwise (LeX b) → (insAll (ltR b) p r).Pairwise (LeX b)
  | [], _, _, _, h => h
  | x :: r, p, hr, hp, h => by
    rw [List.pairwise_cons] at hr
    rw [insAll]
    refine insAll_lex hr.2 (fun z hz y hy => ?_) ?_
    · rw [List.mem_reverse, ins_mem, List.mem_reverse] at hz
      rcases hz with rfl | hz
      · exact hr.1 y hy
      · exact hp z hz y (List.mem_cons_of_mem _ hy)
    · rw [List.pairwise_reverse]
      refine ins_lex (fun y hy => hp y (List.mem_reverse.1 hy) x List.mem_cons_self) ?_
      rw [List.pairwise_reverse]; exact h
theorem lex_trans (b : List Int) : ∀ x y z, LeX b x y → LeX b y z → LeX b x z := fun x y z h1 h2 => by unfold LeX at *; omega
theorem lex_uniq {b W Z : List Int} (h1 : W.Pairwise (LeX b)) (h2 : Z.Pairwise (LeX b)) (hp : W.Perm Z) : W = Z :=
  List.Perm.eq_of_pairwise (le := LeX b) (fun x y _ _ h1 h2 => by unfold LeX at h1 h2; omega) h1 h2 hp
/-- the sorted halves of the first n indices -/
abbrev hfA (b : List Int) (n : Nat) : List Int := insAll (ltR b) [] ((upN n).take 20)
abbrev hfB (b : List Int) (n : Nat) : List Int := insAll (ltR b) [] ((upN n).drop 20)
theorem hfA_pw (b : List Int) (n : Nat) : (hfA b n).Pairwise (LeX b) := insAll_lex ((upN_up n).sublist (List.take_sublist _ _)) (fun x hx => by cases hx) .nil
theorem hfB_pw (b : List Int) (n : Nat) : (hfB b n).Pairwise (LeX b) := insAll_lex ((upN_up n).sublist (List.drop_sublist _ _)) (fun x hx => by cases hx) .nil
theorem hf_lt {b : List Int} {n : Nat} : ∀ u ∈ hfA b n, ∀ v ∈ hfB b n, (ltR b v u = true → LeX b v u) ∧ (ltR b v u = false → LeX b u v) := fun u hu v hv => by
  have h := upN_up n
  rw [← List.take_append_drop 20 (upN n), List.pairwise_append] at h
  have huv : u < v := h.2.2 u (by simpa [insAll_mem] using hu) v (by simpa [insAll_mem] using hv)
  simp only [ltR, decide_eq_true_eq, decide_eq_false_iff_not]
  unfold LeX; omega
theorem insAll_permR (lt : Int → Int → Bool) : ∀ r p : List Int, (insAll lt p r).Perm (p ++ r)
  | [], p => by simp [insAll]
  | x :: r, p => by
    rw [insAll]
    refine (insAll_permR lt r _).trans ?_
    have h1 : ((ins lt x p.reverse).reverse).Perm (x :: p) := (List.reverse_perm _).trans ((ins_permR lt x _).trans ((List.reverse_perm p).cons x))
    exact (h1.append_right r).trans List.perm_middle.symm
theorem hf_perm (b : List Int) (n : Nat) : (hfA b n ++ hfB b n).Perm (upN n) := by
  have h1 := (insAll_permR (ltR b) ((upN n).take 20) []).append (insAll_permR (ltR b) ((upN n).drop 20) [])
  simpa [List.take_append_drop] using h1
theorem stable2_ok {A : Amb} {F : FuncId} {caps : List Value} {b : List Int} {g c n : Nat} [TyFn Try.prog F] (hc : Cmp A F caps (fun x => 0 ≤ x ∧ x < n) (ltR b)) (h1 : 20 < n) (h2 : n < 40) :
    Ctr Try.prog 75 #[.slice (some ⟨g, 0, none⟩) n c, vI n, .func (.func F) #[] caps.toArray] A [LR encI 3 1 (some ⟨g, 0, none⟩) c (upN n)] (fun v gs => v = .tuple #[] ∧ gs = [LR encI 3 1 (some ⟨g, 0, none⟩) c (idxBy (ltR b) n)]) := by
  have hul := upN_len n
  have hal : (hfA b n).length = 20 := by simp [hfA, insAll_length, upN_len]; omega
  have hbl : (hfB b n).length = n - 20 := by simp [hfB, insAll_length, upN_len]
  have hdA : ∀ x ∈ hfA b n, 0 ≤ x ∧ x < n := fun x hx => upN_mem.1 (List.mem_of_mem_take (by simpa [insAll_mem] using hx : x ∈ (upN n).take 20))
  have hdB : ∀ x ∈ hfB b n, 0 ≤ x ∧ x < n := fun x hx => upN_mem.1 (List.mem_of_mem_drop (by simpa [insAll_mem] using hx : x ∈ (upN n).drop 20))
  refine Ctr.body (args := [_, _, _]) Try.func75 rfl Try.ntmps75 Try.results75 (by simp) ?_
  refine CJ.seq ?_
  refine CJ.region ?_
  refine LJ.yd rfl (Yd.asI rfl) ?_
  refine LJ.nil ?_
  refine CJ.seq ?_
  refine CJ.region ?_
  refine LJ.yd rfl (Yd.mvI rfl) ?_
  refine LJ.yd rfl (Yd.asI rfl) ?_
  refine LJ.yd rfl (Yd.asI rfl) ?_
  refine LJ.nil ?_
  refine CJ.seq ?_
  refine CJ.block ?_
  refine CJ.loopF [0, 1, 2, 6] Bool (fun e => True) (fun e => [(8, vI (bif e then 40 else 20)), (7, vI (bif e then 20 else 0))]) (fun e => [LR encI 3 1 (some ⟨g, 0, none⟩) c (bif e then ([] ++ (hfA b n ++ (upN n).drop 20)) else upN n)]) (fun e => (bif e then 0 else 1)) (false) [] [] [0] rfl rfl rfl ?_ ⟨rfl, rfl, trivial⟩ ?_
  · exact by trivial
  · rintro e σ hi1
    replace hi1 : True := hi1
    refine CJ.norm [_] rfl ?_
    refine CJ.seq ?_
    refine CJ.seq ?_
    refine CJ.region ?_
    refine LJ.yd rfl (Yd.mvI rfl) ?_
    refine LJ.yd rfl (Yd.mvI rfl) ?_
    refine LJ.splitD rfl (Yd.leq rfl rfl) (fun h13 => ?_) (fun h13 => ?_)
    · refine LJ.nil ?_
      refine CJ.condT rfl ?_
      refine CJ.skip ?_
      refine CJ.block ?_
      refine CJ.seq ?_
      obtain rfl : e = false := by
        cases e
        · rfl
        · exfalso; simp only [cond_true] at h13; omega
      refine CJ.region ?_
      refine LJ.yd rfl (Yd.mvS rfl) ?_
      refine LJ.yd rfl (Yd.mvI rfl) ?_
      refine LJ.yd rfl (Yd.mvI rfl) ?_
      refine LJ.yd rfl (Yd.mvF rfl) ?_
      refine LJ.call (pickF _ []) (pickF _ [0]) rfl (perm_pickF _ [] [0] rfl) (fun k hk dk => insSeg_ok (P := []) (S := (upN n).take 20) (Q := (upN n).drop 20) hc.up (fun x hx => upN_mem.1 (List.mem_of_mem_take hx)) (by simp [upN_len]; omega) (by simp) hul.symm (by omega) rfl (by simp [upN_len]; omega)) ?_
      rintro _ _ ⟨rfl, rfl⟩
      refine LJ.norm [_] rfl ?_
      refine LJ.nil ?_
      refine CJ.seq ?_
      refine CJ.region ?_
      refine LJ.yd rfl (Yd.mvI rfl) ?_
      refine LJ.yd rfl (Yd.asI rfl) ?_
      refine LJ.nil ?_
      refine CJ.region ?_
      refine LJ.yd rfl (Yd.mvI rfl) ?_
      refine LJ.yd rfl (Yd.mvI rfl) ?_
      refine LJ.yd rfl (Yd.add rfl rfl (by simp only [cond_false]; unfold I64; omega)) ?_
      refine LJ.yd rfl (Yd.asI rfl) ?_
      refine LJ.nil ?_
      refine ⟨true, ?_, ⟨rfl, rfl, rfl, rfl, trivial⟩, ⟨rfl, rfl, trivial⟩, Ent.refl _, ?_⟩
      · first | assumption | omega | (simp_all; done) | (simp_all; omega)
      · decide
    · refine LJ.nil ?_
      refine CJ.condF rfl ?_
      refine CJ.exit ?_
      refine CJ.seq ?_
      obtain rfl : e = true := by
        cases e
        · exfalso; simp only [cond_false] at h13; omega
        · rfl
      refine CJ.region ?_
      refine LJ.yd rfl (Yd.mvS rfl) ?_
      refine LJ.yd rfl (Yd.mvI rfl) ?_
      refine LJ.yd rfl (Yd.mvI rfl) ?_
      refine LJ.yd rfl (Yd.mvF rfl) ?_
      refine LJ.call (pickF _ []) (pickF _ [0]) rfl (perm_pickF _ [] [0] rfl) (fun k hk dk => insSeg_ok (P := hfA b n) (S := (upN n).drop 20) (Q := []) hc.up (fun x hx => upN_mem.1 (List.mem_of_mem_drop hx)) (by simp [upN_len]; omega) (by simp) (by simp [upN_len, insAll_length]; omega) (by omega) (by simp only [cond_true]; omega) (by simp [upN_len, insAll_length]; omega)) ?_
      rintro _ _ ⟨rfl, rfl⟩
      refine LJ.norm [_] rfl ?_
      refine LJ.nil ?_
      refine CJ.block ?_
      refine CJ.loopF [0, 1, 2] (Int × Int × Int × List Int) (fun ⟨x, y, z, q⟩ => (x = 20 ∧ q = hfA b n ++ (hfB b n ++ [])) ∨ (x = 40 ∧ q = idxBy (ltR b) n)) (fun ⟨x, y, z, q⟩ => [(6, vI x), (7, vI y), (8, vI z)]) (fun ⟨x, y, z, q⟩ => [LR encI 3 1 (some ⟨g, 0, none⟩) c q]) (fun ⟨x, y, z, q⟩ => (40 - x).toNat) (20, _, _, hfA b n ++ (hfB b n ++ [])) [] [] [0] rfl rfl rfl ?_ ⟨rfl, rfl, rfl, trivial⟩ ?_
      · exact by exact .inl ⟨rfl, rfl⟩
      · rintro ⟨x, y, z, q⟩ σ hx
        refine CJ.norm [_] rfl ?_
        refine CJ.seq ?_
        refine CJ.seq ?_
        refine CJ.region ?_
        refine LJ.yd rfl (Yd.mvI rfl) ?_
        refine LJ.yd rfl (Yd.mvI rfl) ?_
        refine LJ.splitD rfl (Yd.lss rfl rfl) (fun h30 => ?_) (fun h30 => ?_)
        · refine LJ.nil ?_
          refine CJ.condT rfl ?_
          refine CJ.skip ?_
          refine CJ.block ?_
          refine CJ.seq ?_
          obtain ⟨rfl, rfl⟩ : x = 20 ∧ q = hfA b n ++ (hfB b n ++ []) := by
            rcases hx with h | h
            · exact h
            · exfalso; omega
          refine CJ.region ?_
          refine LJ.yd rfl (Yd.mvI rfl) ?_
          refine LJ.yd rfl (Yd.mul rfl rfl (by unfold I64; omega)) ?_
          refine LJ.yd rfl (Yd.asI rfl) ?_
          refine LJ.yd rfl (Yd.asI rfl) ?_
          refine LJ.nil ?_
          refine CJ.seq ?_
          refine CJ.block ?_
          refine CJ.loopK [0, 1, 2, 6, 28, 29, 30, 31, 32] (Int × Int) (fun ⟨y2, z2⟩ => y2 = 0 ∧ z2 = 40) (fun ⟨y2, z2⟩ => [(7, vI y2), (8, vI z2)]) (fun ⟨y2, z2⟩ => 0) (0, 2 * 20) ?_ ⟨rfl, rfl, trivial⟩ ?_
          · exact by exact ⟨rfl, by omega⟩
          · rintro ⟨y2, z2⟩ σ ⟨hy2, hz2⟩
            refine CJ.seq ?_
            refine CJ.seq ?_
            refine CJ.region ?_
            refine LJ.yd rfl (Yd.mvI rfl) ?_
            refine LJ.yd rfl (Yd.mvI rfl) ?_
            refine LJ.splitD rfl (Yd.leq rfl rfl) (fun h35 => ?_) (fun h35 => ?_)
            · exfalso; omega
            · refine LJ.nil ?_
              refine CJ.condF rfl ?_
              refine CJ.exit ?_
              refine CJ.seq ?_
              refine CJ.seq ?_
              refine CJ.region ?_
              refine LJ.yd rfl (Yd.mvI rfl) ?_
              refine LJ.yd rfl (Yd.mvI rfl) ?_
              refine LJ.yd rfl (Yd.add rfl rfl (by unfold I64; omega)) ?_
              refine LJ.yd rfl (Yd.asI rfl) ?_
              refine LJ.nil ?_
              refine CJ.seq ?_
              refine CJ.region ?_
              refine LJ.yd rfl (Yd.mvI rfl) ?_
              refine LJ.yd rfl (Yd.mvI rfl) ?_
              refine LJ.splitD rfl (Yd.lss rfl rfl) (fun h54 => ?_) (fun h54 => ?_)
              · refine LJ.nil ?_
                refine CJ.condT rfl ?_
                refine CJ.region ?_
                refine LJ.yd rfl (Yd.mvS rfl) ?_
                refine LJ.yd rfl (Yd.mvI rfl) ?_
                refine LJ.yd rfl (Yd.mvI rfl) ?_
                refine LJ.yd rfl (Yd.mvI rfl) ?_
                refine LJ.yd rfl (Yd.mvF rfl) ?_
                refine LJ.call (pickF _ []) (pickF _ [0]) rfl (perm_pickF _ [] [0] rfl) (fun k hk dk => symMerge_ok (R := LeX b) (lex_trans b) (by omega) n _ [] (hfA b n) (hfB b n) [] _ _ _ _ hc.up (by omega) rfl (by simp; omega) (by omega) (by omega) (by simp; omega) (by simp; omega) (by simp; omega) hdA hdB (hfA_pw b n) (hfB_pw b n) hf_lt) ?_
                rintro _ _ ⟨rfl, W, rfl, hw1, hw2⟩
                refine LJ.norm [_] rfl ?_
                refine LJ.nil ?_
                have hq2 : ([] : List Int) ++ (W ++ []) = idxBy (ltR b) n := by
                  simp only [List.nil_append, List.append_nil]
                  exact lex_uniq hw2 (idx_lex b n) (hw1.trans ((hf_perm b n).trans (idxBy_permR (ltR b) n).symm))
                refine CJ.region ?_
                refine LJ.yd rfl (Yd.mvI rfl) ?_
                refine LJ.yd rfl (Yd.mul rfl rfl (by unfold I64; omega)) ?_
                refine LJ.yd rfl (Yd.asI rfl) ?_
                refine LJ.nil ?_
                refine ⟨(_, _, _, _), ?_, ⟨rfl, rfl, rfl, trivial⟩, ⟨rfl, rfl, rfl, trivial⟩, Ent.refl _, ?_⟩
                · exact .inr ⟨by omega, hq2⟩
                · first | omega | (dsimp only; omega) | (simp only []; omega)
              · exfalso; omega
        · refine LJ.nil ?_
          refine CJ.condF rfl ?_
          refine CJ.exit ?_
          refine Fin.ofRet ?_
          obtain rfl : q = idxBy (ltR b) n := by
            rcases hx with h | h
            · exfalso; omega
            · exact h.2
          exact Fin.R [_] Res.none ⟨rfl, rfl⟩ (Ent.refl _)
end Go.Proofs.Ytbgalcjkmgdaiaa
