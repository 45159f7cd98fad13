/-
  Contracts: the least number of groups.
-/
import Derived.Test.YtkojheinklgdeaaA6
import Derived.Test.YtkojheinklgdeaaB2
import Derived.Test.YtkojheinklgdeaaB3
namespace Go.Proofs.Ytkojheinklgdeaa
open Go
set_option maxRecDepth 20000
set_option maxHeartbeats 1000000

theorem least_ex {P : Nat → Prop} : ∀ k, P k → ∃ m, P m ∧ ∀ j, P j → m ≤ j := by
  intro k
  induction k using Nat.strongRecOn with
  | _ k ih =>
    intro hk
    by_cases h : ∃ j, j < k ∧ P j
    · obtain ⟨j, h1, h2⟩ := h
      exact ih j h1 h2
    · exact ⟨k, hk, fun j hj => Nat.le_of_not_lt fun hl => h ⟨j, hl, hj⟩⟩
theorem Few.ex (ok : Nat → Bool) (s : Nat) : ∃ v, Few ok s v := by
  by_cases h : ∃ k, Part ok s k
  · obtain ⟨k, hk⟩ := h
    obtain ⟨m, h1, h2⟩ := least_ex (P := Part ok s) k hk
    exact ⟨m, .inr ⟨m, rfl, h1, h2⟩⟩
  · exact ⟨-1, .inl ⟨rfl, fun k hk => h ⟨k, hk⟩⟩⟩
theorem rep_get {α : Type} {z : α} {n t : Nat} (h : t < n) : (List.replicate n z)[t]? = some z := by simp [h]
theorem Few.zeroT {ok : Nat → Bool} {t : Nat} (h : t < 1) : Few ok t 0 := by
  obtain rfl : t = 0 := by omega
  exact Few.zero
/-- the least number of groups -/
noncomputable def fewN (ok : Nat → Bool) (s : Nat) : Int := Classical.choose (Few.ex ok s)
theorem fewN_ok (ok : Nat → Bool) (s : Nat) : Few ok s (fewN ok s) := Classical.choose_spec (Few.ex ok s)
theorem Few.eq {ok : Nat → Bool} {s : Nat} {v : Int} (h : Few ok s v) : v = fewN ok s := h.uniq (fewN_ok ok s)
theorem Few.bound {ok : Nat → Bool} {n s : Nat} {v : Int} (h : Few ok s v) (hs : s < 2 ^ n) : -1 ≤ v ∧ v ≤ n := by
  rcases h with ⟨rfl, _⟩ | ⟨m, rfl, h, _⟩
  · omega
  · have := h.cnt_ge hs
    have := cnt_le n s
    omega
theorem Few.neg {ok : Nat → Bool} {s : Nat} {v : Int} (h : Few ok s v) (hv : v < 0) : ∀ k, ¬ Part ok s k := by
  rcases h with ⟨rfl, h⟩ | ⟨m, rfl, h, _⟩
  · exact h
  · omega
theorem Acc.bound {ok : Nat → Bool} {s : Nat} {P : Nat → Prop} {v : Int} (h : Acc ok s P v) : -1 ≤ v := by
  rcases h with ⟨rfl, _⟩ | ⟨m, rfl, _⟩ <;> omega
theorem acc_next {ok : Nat → Bool} {s g : Nat} {v : Int} (hs : Sub g s) (h0 : 0 < g) (h : Acc ok s (fun x => x = g ∨ g < x) v) : Acc ok s (fun x => ((g - 1) &&& s) < x) v := by
  obtain ⟨h1, h2, h3⟩ := sub_next s g hs h0
  refine h.cong fun x hx _ => ⟨fun hp => by omega, fun hp => ?_⟩
  rcases Nat.lt_or_ge x g with h4 | h4
  · have := h3 x hx h4; omega
  · omega
/-- a function that tells which sets are groups -/
def Fits (A : Amb) (F : FuncId) (caps : List Value) (n : Nat) (ok : Nat → Bool) : Prop :=
  ∀ (B : Amb), AmbLe A B → ∀ g : Nat, 0 < g → g < 2 ^ n → Ctr Try.prog F ([vI g] ++ caps).toArray B [] (Val (.bool (ok g)))
theorem Fits.up {A B : Amb} [h : AmbLe A B] {F : FuncId} {caps : List Value} {n : Nat} {ok : Nat → Bool} (c : Fits A F caps n ok) : Fits B F caps n ok := fun C hC => c C ⟨h.le.trans hC.le, hC.os.trans h.os, hC.tape.trans h.tape, hC.out.trans h.out⟩
theorem pow_b {n : Nat} (h : n ≤ 7) : 1 ≤ 2 ^ n ∧ 2 ^ n ≤ 128 := ⟨Nat.one_le_two_pow, Nat.le_trans (Nat.pow_le_pow_right (by omega) h) (by omega)⟩
theorem fewestGroups_ok {A : Amb} {F : FuncId} {caps : List Value} {n : Nat} {ok : Nat → Bool} [TyFn Try.prog F] (hc : Fits A F caps n ok) (hn : n ≤ 7) :
    Ctr Try.prog 58 #[vI n, .func (.func F) #[] caps.toArray] A [] (Val (vI (fewN ok (2 ^ n - 1)))) := by
  obtain ⟨hp1, hp2⟩ := pow_b hn
  refine Ctr.body (args := [_, _]) Try.func58 rfl Try.ntmps58 Try.results58 (by simp) ?_
  refine CJ.seq ?_
  refine CJ.region ?_
  refine LJ.yd rfl (Yd.asI rfl) ?_
  refine LJ.nil ?_
  refine CJ.seq ?_
  refine CJ.region ?_
  refine LJ.yd rfl (Yd.mvI rfl) ?_
  refine LJ.yd rfl (Yd.shl1 rfl rfl (by omega)) ?_
  refine LJ.op rfl (OpR.mk (enc := encI) (0 : Int) (m := 2 ^ n) rfl rfl rfl (by first | rfl | omega | (simp; done) | (simp; omega) | (simp [upN_len]; omega) | (simp [idxBy_len]; omega) | (simp [marks_len]; omega) | (simp [upN_len]; done) | (simp [idxBy_len]; done) | (simp [marks_len]; done) | (simp at *; omega))) ?_
  rintro _ _ ⟨g11, rfl, rfl⟩
  refine LJ.norm [_] rfl ?_
  refine LJ.yd rfl (Yd.asS rfl) ?_
  refine LJ.nil ?_
  refine CJ.seq ?_
  refine CJ.seq ?_
  refine CJ.region ?_
  refine LJ.yd rfl (Yd.asI rfl) ?_
  refine LJ.nil ?_
  refine CJ.block ?_
  refine CJ.loopF [0, 1, 4, 5] (Nat × List Int) (fun ⟨s, L⟩ => s ≤ 2 ^ n ∧ 1 ≤ s ∧ L.length = 2 ^ n ∧ ∀ t, t < s → ∃ v, L[t]? = some v ∧ Few ok t v) (fun ⟨s, L⟩ => [(6, vI s)]) (fun ⟨s, L⟩ => [LR encI 3 1 (some ⟨g11, 0, none⟩) (2 ^ n) L]) (fun ⟨s, L⟩ => 2 ^ n - s) (1, List.replicate (2 ^ n) 0) [] [] [0] rfl rfl rfl ?_ ⟨rfl, trivial⟩ ?_
  · exact ⟨by omega, by omega, by simp, fun t ht => ⟨0, rep_get (by omega), Few.zeroT ht⟩⟩
  · rintro ⟨s, L⟩ σ ⟨hs1, hs0, hLl, hL⟩
    refine CJ.norm [_] rfl ?_
    refine CJ.seq ?_
    refine CJ.seq ?_
    refine CJ.region ?_
    refine LJ.yd rfl (Yd.mvI rfl) ?_
    refine LJ.yd rfl (Yd.mvI rfl) ?_
    refine LJ.yd rfl (Yd.shl1 rfl rfl (by omega)) ?_
    refine LJ.splitD rfl (Yd.lss rfl rfl) (fun h15 => ?_) (fun h15 => ?_)
    · refine LJ.nil ?_
      refine CJ.condT rfl ?_
      refine CJ.skip ?_
      refine CJ.seq ?_
      refine CJ.block ?_
      refine CJ.seq ?_
      refine CJ.region ?_
      refine LJ.yd rfl (Yd.mvS rfl) ?_
      refine LJ.yd rfl (Yd.mvI rfl) ?_
      refine LJ.idxR 0 rfl rfl rfl rfl (by omega) (by first | rfl | omega | (simp; done) | (simp; omega) | (simp [upN_len]; omega) | (simp [idxBy_len]; omega) | (simp [marks_len]; omega) | (simp [upN_len]; done) | (simp [idxBy_len]; done) | (simp [marks_len]; done) | (simp at *; omega)) (by first | rfl | omega | (simp; done) | (simp; omega) | (simp [upN_len]; omega) | (simp [idxBy_len]; omega) | (simp [marks_len]; omega) | (simp [upN_len]; done) | (simp [idxBy_len]; done) | (simp [marks_len]; done) | (simp at *; omega)) (fun ib20 ia20 => ?_)
      refine LJ.op rfl (OpR.st1 (enc := encI) (e1 := fun u => vI u) 0 (fun _ => rfl) (fun _ => rfl) (fun _ => rfl) rfl ia20 rfl rfl rfl (by first | rfl | omega | (simp; done) | (simp; omega) | (simp [upN_len]; omega) | (simp [idxBy_len]; omega) | (simp [marks_len]; omega) | (simp [upN_len]; done) | (simp [idxBy_len]; done) | (simp [marks_len]; done) | (simp at *; omega))) ?_
      rintro _ _ ⟨rfl, rfl⟩
      refine LJ.norm [_] rfl ?_
      refine LJ.nil ?_
      refine CJ.seq ?_
      refine CJ.region ?_
      refine LJ.yd rfl (Yd.mvI rfl) ?_
      refine LJ.yd rfl (Yd.asI rfl) ?_
      refine LJ.nil ?_
      refine CJ.block ?_
      refine CJ.loopF [0, 1, 4, 5, 6, 12, 13, 14, 15, 18, 19, 20, 21] (Nat × List Int × Int) (fun ⟨g, L2, v⟩ => Sub g s ∧ L2.length = 2 ^ n ∧ (∀ t, t < s → L2[t]? = L[t]?) ∧ L2[s]? = some v ∧ Acc ok s (fun x => g < x) v) (fun ⟨g, L2, v⟩ => [(7, vI g)]) (fun ⟨g, L2, v⟩ => [LR encI 3 1 (some ⟨g11, 0, none⟩) (2 ^ n) L2]) (fun ⟨g, L2, v⟩ => g) (s, L.set s (-1), -1) [] [] [0] rfl rfl rfl ?_ ⟨rfl, trivial⟩ ?_
      · exact ⟨Sub.refl _, by simp [hLl], fun t ht => by rw [List.getElem?_set_ne (by omega)], by rw [List.getElem?_set_self (by omega)], Acc.none fun x h1 h2 _ => by have := h2.le; omega⟩
      · rintro ⟨g, L2, v⟩ σ ⟨hsub, hL2l, hLe, hv, hacc⟩
        refine CJ.norm [_] rfl ?_
        have hgs := hsub.le
        refine CJ.seq ?_
        refine CJ.seq ?_
        refine CJ.region ?_
        refine LJ.yd rfl (Yd.mvI rfl) ?_
        refine LJ.splitD rfl (Yd.gtr rfl rfl) (fun h23 => ?_) (fun h23 => ?_)
        · refine LJ.nil ?_
          refine CJ.condT rfl ?_
          refine CJ.skip ?_
          refine CJ.seq ?_
          refine CJ.block ?_
          refine CJ.seq ?_
          refine CJ.region ?_
          refine LJ.yd rfl (Yd.mvS rfl) ?_
          refine LJ.yd rfl (Yd.mvI rfl) ?_
          refine LJ.yd rfl (Yd.mvI rfl) ?_
          refine LJ.yd rfl (Yd.andNotN rfl rfl (by omega) hsub) ?_
          refine LJ.idxR 0 rfl rfl rfl rfl (by omega) (by first | rfl | omega | (simp; done) | (simp; omega) | (simp [upN_len]; omega) | (simp [idxBy_len]; omega) | (simp [marks_len]; omega) | (simp [upN_len]; done) | (simp [idxBy_len]; done) | (simp [marks_len]; done) | (simp at *; omega)) (by first | rfl | omega | (simp; done) | (simp; omega) | (simp [upN_len]; omega) | (simp [idxBy_len]; omega) | (simp [marks_len]; omega) | (simp [upN_len]; done) | (simp [idxBy_len]; done) | (simp [marks_len]; done) | (simp at *; omega)) (fun ib32 ia32 => ?_)
          refine LJ.ldR 0 0 (fun u => vI u) (fun _ => rfl) rfl ia32 rfl rfl rfl (by first | rfl | omega | (simp; done) | (simp; omega) | (simp [upN_len]; omega) | (simp [idxBy_len]; omega) | (simp [marks_len]; omega) | (simp [upN_len]; done) | (simp [idxBy_len]; done) | (simp [marks_len]; done) | (simp at *; omega)) (fun u33 hu33 => ?_)
          try simp only [Int.toNat_natCast] at hu33
          obtain ⟨r33, hr33, hf33⟩ := hL (s - g) (by omega)
          rw [hLe (s - g) (by omega), hr33] at hu33
          obtain rfl : u33 = r33 := (Option.some.inj hu33).symm
          refine LJ.yd rfl (Yd.asI rfl) ?_
          refine LJ.nil ?_
          refine CJ.seq ?_
          refine CJ.seq ?_
          refine CJ.region ?_
          refine LJ.yd rfl (Yd.mvI rfl) ?_
          refine LJ.splitD rfl (Yd.lss rfl rfl) (fun h35 => ?_) (fun h35 => ?_)
          · refine LJ.yd rfl (Yd.mvB rfl) ?_
            refine LJ.gF rfl rfl ?_
            refine LJ.gF rfl rfl ?_
            refine LJ.gF rfl rfl ?_
            refine LJ.gF rfl rfl ?_
            refine LJ.yd rfl (Yd.pickTB rfl rfl) ?_
            refine LJ.nil ?_
            refine CJ.condT rfl ?_
            refine CJ.exit ?_
            refine CJ.region ?_
            refine LJ.yd rfl (Yd.mvI rfl) ?_
            refine LJ.yd rfl (Yd.sub rfl rfl (by unfold I64; omega)) ?_
            refine LJ.yd rfl (Yd.mvI rfl) ?_
            refine LJ.yd rfl (Yd.andN (congrArg vI (show ((g : Int) - 1) = ((g - 1 : Nat) : Int) by omega)) rfl (by omega) (by omega)) ?_
            refine LJ.yd rfl (Yd.asI rfl) ?_
            refine LJ.nil ?_
            refine ⟨((g - 1) &&& s, L2, v), ?_, ⟨rfl, rfl, rfl, rfl, rfl, rfl, rfl, rfl, rfl, rfl, rfl, rfl, rfl, trivial⟩, ⟨rfl, trivial⟩, Ent.refl _, ?_⟩
            · obtain ⟨hn1, hn2, hn3⟩ := sub_next s g hsub (by omega)
              refine ⟨hn1, hL2l, hLe, hv, acc_next hsub (by omega) ?_⟩
              exact hacc.skip (by first | exact fun _ => hf33.neg h35 | exact fun h => absurd h (by rw [h39]; simp))
            · obtain ⟨_, hn2, _⟩ := sub_next s g hsub (by omega)
              exact hn2
          · refine LJ.yd rfl (Yd.mvB rfl) ?_
            refine LJ.gT rfl ?_
            refine LJ.yd rfl (Yd.mvF rfl) ?_
            refine LJ.gT rfl ?_
            refine LJ.yd rfl (Yd.mvI rfl) ?_
            refine LJ.gT rfl ?_
            refine LJ.callDB rfl rfl (fun k hk dk => hc (A.ext k) inferInstance g (by omega) (by omega)) (fun h39 => ?_) (fun h39 => ?_)
            · refine LJ.gT rfl ?_
              refine LJ.yd rfl (Yd.not rfl) ?_
              refine LJ.yd rfl (Yd.pickFB rfl rfl) ?_
              refine LJ.nil ?_
              refine CJ.condF rfl ?_
              refine CJ.skip ?_
              refine CJ.seq ?_
              refine CJ.region ?_
              refine LJ.yd rfl (Yd.mvS rfl) ?_
              refine LJ.yd rfl (Yd.mvI rfl) ?_
              refine LJ.idxR 0 rfl rfl rfl rfl (by omega) (by first | rfl | omega | (simp; done) | (simp; omega) | (simp [upN_len]; omega) | (simp [idxBy_len]; omega) | (simp [marks_len]; omega) | (simp [upN_len]; done) | (simp [idxBy_len]; done) | (simp [marks_len]; done) | (simp at *; omega)) (by first | rfl | omega | (simp; done) | (simp; omega) | (simp [upN_len]; omega) | (simp [idxBy_len]; omega) | (simp [marks_len]; omega) | (simp [upN_len]; done) | (simp [idxBy_len]; done) | (simp [marks_len]; done) | (simp at *; omega)) (fun ib44 ia44 => ?_)
              refine LJ.ldR 0 0 (fun u => vI u) (fun _ => rfl) rfl ia44 rfl rfl rfl (by first | rfl | omega | (simp; done) | (simp; omega) | (simp [upN_len]; omega) | (simp [idxBy_len]; omega) | (simp [marks_len]; omega) | (simp [upN_len]; done) | (simp [idxBy_len]; done) | (simp [marks_len]; done) | (simp at *; omega)) (fun u45 hu45 => ?_)
              try simp only [Int.toNat_natCast] at hu45
              obtain rfl : v = u45 := by rw [hv] at hu45; exact Option.some.inj hu45
              refine LJ.splitD rfl (Yd.lss rfl rfl) (fun h46 => ?_) (fun h46 => ?_)
              · refine LJ.yd rfl (Yd.mvB rfl) ?_
                refine LJ.gF rfl rfl ?_
                refine LJ.gF rfl rfl ?_
                refine LJ.gF rfl rfl ?_
                refine LJ.gF rfl rfl ?_
                refine LJ.gF rfl rfl ?_
                refine LJ.gF rfl rfl ?_
                refine LJ.gF rfl rfl ?_
                refine LJ.yd rfl (Yd.pickTB rfl rfl) ?_
                refine LJ.nil ?_
                refine CJ.condT rfl ?_
                refine CJ.region ?_
                refine LJ.yd rfl (Yd.mvS rfl) ?_
                refine LJ.yd rfl (Yd.mvI rfl) ?_
                refine LJ.yd rfl (Yd.mvI rfl) ?_
                refine LJ.yd rfl (Yd.add rfl rfl (by have := (hf33.bound (n := n) (by omega)); unfold I64; omega)) ?_
                refine LJ.idxR 0 rfl rfl rfl rfl (by omega) (by first | rfl | omega | (simp; done) | (simp; omega) | (simp [upN_len]; omega) | (simp [idxBy_len]; omega) | (simp [marks_len]; omega) | (simp [upN_len]; done) | (simp [idxBy_len]; done) | (simp [marks_len]; done) | (simp at *; omega)) (by first | rfl | omega | (simp; done) | (simp; omega) | (simp [upN_len]; omega) | (simp [idxBy_len]; omega) | (simp [marks_len]; omega) | (simp [upN_len]; done) | (simp [idxBy_len]; done) | (simp [marks_len]; done) | (simp at *; omega)) (fun ib60 ia60 => ?_)
                refine LJ.op rfl (OpR.st1 (enc := encI) (e1 := fun u => vI u) 0 (fun _ => rfl) (fun _ => rfl) (fun _ => rfl) rfl ia60 rfl rfl rfl (by first | rfl | omega | (simp; done) | (simp; omega) | (simp [upN_len]; omega) | (simp [idxBy_len]; omega) | (simp [marks_len]; omega) | (simp [upN_len]; done) | (simp [idxBy_len]; done) | (simp [marks_len]; done) | (simp at *; omega))) ?_
                rintro _ _ ⟨rfl, rfl⟩
                refine LJ.norm [_] rfl ?_
                refine LJ.nil ?_
                refine CJ.region ?_
                refine LJ.yd rfl (Yd.mvI rfl) ?_
                refine LJ.yd rfl (Yd.sub rfl rfl (by unfold I64; omega)) ?_
                refine LJ.yd rfl (Yd.mvI rfl) ?_
                refine LJ.yd rfl (Yd.andN (congrArg vI (show ((g : Int) - 1) = ((g - 1 : Nat) : Int) by omega)) rfl (by omega) (by omega)) ?_
                refine LJ.yd rfl (Yd.asI rfl) ?_
                refine LJ.nil ?_
                refine ⟨((g - 1) &&& s, L2.set s (u33 + 1), u33 + 1), ?_, ⟨rfl, rfl, rfl, rfl, rfl, rfl, rfl, rfl, rfl, rfl, rfl, rfl, rfl, trivial⟩, ⟨rfl, trivial⟩, Ent.refl _, ?_⟩
                · obtain ⟨hn1, hn2, hn3⟩ := sub_next s g hsub (by omega)
                  refine ⟨hn1, by simp [hL2l], fun t ht => by rw [List.getElem?_set_ne (by omega)]; exact hLe t ht, by rw [List.getElem?_set_self (by omega)], acc_next hsub (by omega) ?_⟩
                  have := hacc.add hsub (by omega) h39 hf33 h35
                  rw [if_pos (by omega)] at this; exact this
                · obtain ⟨_, hn2, _⟩ := sub_next s g hsub (by omega)
                  exact hn2
              · refine LJ.yd rfl (Yd.mvB rfl) ?_
                refine LJ.gT rfl ?_
                refine LJ.yd rfl (Yd.mvI rfl) ?_
                refine LJ.gT rfl ?_
                refine LJ.yd rfl (Yd.add rfl rfl (by have := (hf33.bound (n := n) (by omega)); unfold I64; omega)) ?_
                refine LJ.gT rfl ?_
                refine LJ.yd rfl (Yd.mvS rfl) ?_
                refine LJ.gT rfl ?_
                refine LJ.yd rfl (Yd.mvI rfl) ?_
                refine LJ.gT rfl ?_
                refine LJ.idxR 0 rfl rfl rfl rfl (by omega) (by first | rfl | omega | (simp; done) | (simp; omega) | (simp [upN_len]; omega) | (simp [idxBy_len]; omega) | (simp [marks_len]; omega) | (simp [upN_len]; done) | (simp [idxBy_len]; done) | (simp [marks_len]; done) | (simp at *; omega)) (by first | rfl | omega | (simp; done) | (simp; omega) | (simp [upN_len]; omega) | (simp [idxBy_len]; omega) | (simp [marks_len]; omega) | (simp [upN_len]; done) | (simp [idxBy_len]; done) | (simp [marks_len]; done) | (simp at *; omega)) (fun ib52 ia52 => ?_)
                refine LJ.gT rfl ?_
                refine LJ.ldR 0 0 (fun u => vI u) (fun _ => rfl) rfl ia52 rfl rfl rfl (by first | rfl | omega | (simp; done) | (simp; omega) | (simp [upN_len]; omega) | (simp [idxBy_len]; omega) | (simp [marks_len]; omega) | (simp [upN_len]; done) | (simp [idxBy_len]; done) | (simp [marks_len]; done) | (simp at *; omega)) (fun u53 hu53 => ?_)
                try simp only [Int.toNat_natCast] at hu53
                obtain rfl : v = u53 := by rw [hv] at hu53; exact Option.some.inj hu53
                refine LJ.gT rfl ?_
                refine LJ.splitD rfl (Yd.lss rfl rfl) (fun h54 => ?_) (fun h54 => ?_)
                · refine LJ.yd rfl (Yd.pickFB rfl rfl) ?_
                  refine LJ.nil ?_
                  refine CJ.condT rfl ?_
                  refine CJ.region ?_
                  refine LJ.yd rfl (Yd.mvS rfl) ?_
                  refine LJ.yd rfl (Yd.mvI rfl) ?_
                  refine LJ.yd rfl (Yd.mvI rfl) ?_
                  refine LJ.yd rfl (Yd.add rfl rfl (by have := (hf33.bound (n := n) (by omega)); unfold I64; omega)) ?_
                  refine LJ.idxR 0 rfl rfl rfl rfl (by omega) (by first | rfl | omega | (simp; done) | (simp; omega) | (simp [upN_len]; omega) | (simp [idxBy_len]; omega) | (simp [marks_len]; omega) | (simp [upN_len]; done) | (simp [idxBy_len]; done) | (simp [marks_len]; done) | (simp at *; omega)) (by first | rfl | omega | (simp; done) | (simp; omega) | (simp [upN_len]; omega) | (simp [idxBy_len]; omega) | (simp [marks_len]; omega) | (simp [upN_len]; done) | (simp [idxBy_len]; done) | (simp [marks_len]; done) | (simp at *; omega)) (fun ib60 ia60 => ?_)
                  refine LJ.op rfl (OpR.st1 (enc := encI) (e1 := fun u => vI u) 0 (fun _ => rfl) (fun _ => rfl) (fun _ => rfl) rfl ia60 rfl rfl rfl (by first | rfl | omega | (simp; done) | (simp; omega) | (simp [upN_len]; omega) | (simp [idxBy_len]; omega) | (simp [marks_len]; omega) | (simp [upN_len]; done) | (simp [idxBy_len]; done) | (simp [marks_len]; done) | (simp at *; omega))) ?_
                  rintro _ _ ⟨rfl, rfl⟩
                  refine LJ.norm [_] rfl ?_
                  refine LJ.nil ?_
                  refine CJ.region ?_
                  refine LJ.yd rfl (Yd.mvI rfl) ?_
                  refine LJ.yd rfl (Yd.sub rfl rfl (by unfold I64; omega)) ?_
                  refine LJ.yd rfl (Yd.mvI rfl) ?_
                  refine LJ.yd rfl (Yd.andN (congrArg vI (show ((g : Int) - 1) = ((g - 1 : Nat) : Int) by omega)) rfl (by omega) (by omega)) ?_
                  refine LJ.yd rfl (Yd.asI rfl) ?_
                  refine LJ.nil ?_
                  refine ⟨((g - 1) &&& s, L2.set s (u33 + 1), u33 + 1), ?_, ⟨rfl, rfl, rfl, rfl, rfl, rfl, rfl, rfl, rfl, rfl, rfl, rfl, rfl, trivial⟩, ⟨rfl, trivial⟩, Ent.refl _, ?_⟩
                  · obtain ⟨hn1, hn2, hn3⟩ := sub_next s g hsub (by omega)
                    refine ⟨hn1, by simp [hL2l], fun t ht => by rw [List.getElem?_set_ne (by omega)]; exact hLe t ht, by rw [List.getElem?_set_self (by omega)], acc_next hsub (by omega) ?_⟩
                    have := hacc.add hsub (by omega) h39 hf33 h35
                    rw [if_pos (by omega)] at this; exact this
                  · obtain ⟨_, hn2, _⟩ := sub_next s g hsub (by omega)
                    exact hn2
                · refine LJ.yd rfl (Yd.pickFB rfl rfl) ?_
                  refine LJ.nil ?_
                  refine CJ.condF rfl ?_
                  refine CJ.skip ?_
                  refine CJ.region ?_
                  refine LJ.yd rfl (Yd.mvI rfl) ?_
                  refine LJ.yd rfl (Yd.sub rfl rfl (by unfold I64; omega)) ?_
                  refine LJ.yd rfl (Yd.mvI rfl) ?_
                  refine LJ.yd rfl (Yd.andN (congrArg vI (show ((g : Int) - 1) = ((g - 1 : Nat) : Int) by omega)) rfl (by omega) (by omega)) ?_
                  refine LJ.yd rfl (Yd.asI rfl) ?_
                  refine LJ.nil ?_
                  refine ⟨((g - 1) &&& s, L2, v), ?_, ⟨rfl, rfl, rfl, rfl, rfl, rfl, rfl, rfl, rfl, rfl, rfl, rfl, rfl, trivial⟩, ⟨rfl, trivial⟩, Ent.refl _, ?_⟩
                  · obtain ⟨hn1, hn2, hn3⟩ := sub_next s g hsub (by omega)
                    refine ⟨hn1, hL2l, hLe, hv, acc_next hsub (by omega) ?_⟩
                    have := hacc.add hsub (by omega) h39 hf33 h35
                    rw [if_neg (by omega)] at this; exact this
                  · obtain ⟨_, hn2, _⟩ := sub_next s g hsub (by omega)
                    exact hn2
            · refine LJ.gT rfl ?_
              refine LJ.yd rfl (Yd.not rfl) ?_
              refine LJ.yd rfl (Yd.pickFB rfl rfl) ?_
              refine LJ.nil ?_
              refine CJ.condT rfl ?_
              refine CJ.exit ?_
              refine CJ.region ?_
              refine LJ.yd rfl (Yd.mvI rfl) ?_
              refine LJ.yd rfl (Yd.sub rfl rfl (by unfold I64; omega)) ?_
              refine LJ.yd rfl (Yd.mvI rfl) ?_
              refine LJ.yd rfl (Yd.andN (congrArg vI (show ((g : Int) - 1) = ((g - 1 : Nat) : Int) by omega)) rfl (by omega) (by omega)) ?_
              refine LJ.yd rfl (Yd.asI rfl) ?_
              refine LJ.nil ?_
              refine ⟨((g - 1) &&& s, L2, v), ?_, ⟨rfl, rfl, rfl, rfl, rfl, rfl, rfl, rfl, rfl, rfl, rfl, rfl, rfl, trivial⟩, ⟨rfl, trivial⟩, Ent.refl _, ?_⟩
              · obtain ⟨hn1, hn2, hn3⟩ := sub_next s g hsub (by omega)
                refine ⟨hn1, hL2l, hLe, hv, acc_next hsub (by omega) ?_⟩
                exact hacc.skip (by first | exact fun _ => hf33.neg h35 | exact fun h => absurd h (by rw [h39]; simp))
              · obtain ⟨_, hn2, _⟩ := sub_next s g hsub (by omega)
                exact hn2
        · refine LJ.nil ?_
          refine CJ.condF rfl ?_
          refine CJ.exit ?_
          refine CJ.region ?_
          refine LJ.yd rfl (Yd.mvI rfl) ?_
          refine LJ.yd rfl (Yd.add rfl rfl (by unfold I64; omega)) ?_
          refine LJ.yd rfl (Yd.asI rfl) ?_
          refine LJ.nil ?_
          refine ⟨(s + 1, L2), ?_, ⟨rfl, rfl, rfl, rfl, trivial⟩, ⟨rfl, trivial⟩, Ent.refl _, ?_⟩
          · refine ⟨by omega, ?_⟩
            refine ⟨by omega, hL2l, fun t ht => ?_⟩
            by_cases e : t = s
            · subst e
              exact ⟨v, hv, (hacc.done (by omega) (fun x _ hx => by omega))⟩
            · rw [hLe t (by omega)]; exact hL t (by omega)
          · first | omega | (dsimp only; omega) | (simp only []; omega)
    · refine LJ.nil ?_
      refine CJ.condF rfl ?_
      refine CJ.exit ?_
      refine CJ.seq ?_
      refine CJ.region ?_
      refine LJ.yd rfl (Yd.mvS rfl) ?_
      refine LJ.yd rfl (Yd.mvI rfl) ?_
      refine LJ.yd rfl (Yd.shl1 rfl rfl (by omega)) ?_
      refine LJ.yd rfl (Yd.sub rfl rfl (by unfold I64; omega)) ?_
      refine LJ.idxR 0 rfl rfl rfl rfl (by omega) (by first | rfl | omega | (simp; done) | (simp; omega) | (simp [upN_len]; omega) | (simp [idxBy_len]; omega) | (simp [marks_len]; omega) | (simp [upN_len]; done) | (simp [idxBy_len]; done) | (simp [marks_len]; done) | (simp at *; omega)) (by first | rfl | omega | (simp; done) | (simp; omega) | (simp [upN_len]; omega) | (simp [idxBy_len]; omega) | (simp [marks_len]; omega) | (simp [upN_len]; done) | (simp [idxBy_len]; done) | (simp [marks_len]; done) | (simp at *; omega)) (fun ib65 ia65 => ?_)
      refine LJ.ldR 0 0 (fun u => vI u) (fun _ => rfl) rfl ia65 rfl rfl rfl (by first | rfl | omega | (simp; done) | (simp; omega) | (simp [upN_len]; omega) | (simp [idxBy_len]; omega) | (simp [marks_len]; omega) | (simp [upN_len]; done) | (simp [idxBy_len]; done) | (simp [marks_len]; done) | (simp at *; omega)) (fun u66 hu66 => ?_)
      try simp only [Int.toNat_natCast] at hu66
      obtain ⟨r66, hr66, hf66⟩ := hL (2 ^ n - 1) (by omega)
      rw [show (((2 ^ n : Nat) : Int) - 1).toNat = 2 ^ n - 1 by omega, hr66] at hu66
      obtain rfl : r66 = u66 := Option.some.inj hu66
      refine LJ.yd rfl (Yd.asI rfl) ?_
      refine LJ.nil ?_
      refine CJ.ret ?_
      refine Fin.V (Res.one (ResV.tmp (v := .int _ _) rfl)) ?_
      rw [hf66.eq]
theorem sumIn_ok {A : Amb} {v : Value} {l : List Int} {s : Nat} (hl : RdL encI 1 A.h v l) (hb : ∀ u ∈ l, 0 ≤ u ∧ u ≤ 1000) (hn : l.length ≤ 60) (hs : s < 2 ^ 62) : Ctr Try.prog 60 #[v, vI s] A [] (Val (vI (smk l s))) := by
  obtain ⟨la, lc, rfl, hlb, hl⟩ := hl.un
  refine Ctr.body (args := [_, _]) Try.func60 rfl Try.ntmps60 Try.results60 (by simp) ?_
  refine CJ.seq ?_
  refine CJ.region ?_
  refine LJ.yd rfl (Yd.asI rfl) ?_
  refine LJ.nil ?_
  refine CJ.seq ?_
  refine CJ.region ?_
  refine LJ.yd rfl (Yd.asI rfl) ?_
  refine LJ.nil ?_
  refine CJ.seq ?_
  refine CJ.seq ?_
  refine CJ.region ?_
  refine LJ.yd rfl (Yd.mvS rfl) ?_
  refine LJ.yd rfl (Yd.len rfl) ?_
  refine LJ.yd rfl (Yd.mvI rfl) ?_
  refine LJ.nil ?_
  refine CJ.block ?_
  refine CJ.loopK [1, 4, 8, 9] (Nat × Int) (fun ⟨k, x⟩ => k ≤ l.length ∧ 0 ≤ x ∧ x ≤ 1000 * k ∧ x + smk (l.drop k) (s / 2 ^ k) = smk l s) (fun ⟨k, x⟩ => [(10, vI k), (5, vI x)]) (fun ⟨k, x⟩ => l.length - k) (0, 0) ?_ ⟨rfl, rfl, trivial⟩ ?_
  · exact ⟨by omega, by omega, by omega, by simp⟩
  · rintro ⟨k, x⟩ σ ⟨hk1, hx0, hx1, hx⟩
    refine CJ.seq ?_
    refine CJ.region ?_
    refine LJ.splitD rfl (Yd.lss rfl rfl) (fun h11 => ?_) (fun h11 => ?_)
    · refine LJ.nil ?_
      refine CJ.seq ?_
      refine CJ.condT rfl ?_
      refine CJ.skip ?_
      refine CJ.seq ?_
      refine CJ.block ?_
      refine CJ.seq ?_
      refine CJ.region ?_
      refine LJ.yd rfl (Yd.mvI rfl) ?_
      refine LJ.idxA rfl hl rfl rfl (by omega) (by first | rfl | omega | (simp; done) | (simp; omega) | (simp [upN_len]; omega) | (simp [idxBy_len]; omega) | (simp [marks_len]; omega) | (simp [upN_len]; done) | (simp [idxBy_len]; done) | (simp [marks_len]; done) | (simp at *; omega)) (fun ib13 io13 ia13 ir13 => ?_)
      refine LJ.ldA 0 (fun u => vI u) (fun _ => rfl) ir13 rfl rfl rfl (by first | rfl | omega | (simp; done) | (simp; omega) | (simp [upN_len]; omega) | (simp [idxBy_len]; omega) | (simp [marks_len]; omega) | (simp [upN_len]; done) | (simp [idxBy_len]; done) | (simp [marks_len]; done) | (simp at *; omega)) (fun u14 hu14 => ?_)
      try simp only [Int.toNat_natCast] at hu14
      have hf14 := hb u14 (List.mem_of_getElem? hu14)
      refine LJ.yd rfl (Yd.asI rfl) ?_
      refine LJ.yd rfl (Yd.asI rfl) ?_
      refine LJ.nil ?_
      refine CJ.seq ?_
      refine CJ.region ?_
      refine LJ.yd rfl (Yd.mvI rfl) ?_
      refine LJ.yd rfl (Yd.mvI rfl) ?_
      refine LJ.yd rfl (Yd.shrN rfl rfl (by omega)) ?_
      refine LJ.yd rfl (Yd.andN (b := 1) rfl rfl (by have : s / 2 ^ k ≤ s := Nat.div_le_self _ _; omega) (by decide)) ?_
      refine LJ.splitD rfl (Yd.eql rfl rfl) (fun h19 => ?_) (fun h19 => ?_)
      · refine LJ.nil ?_
        refine CJ.condT rfl ?_
        refine CJ.region ?_
        refine LJ.yd rfl (Yd.mvI rfl) ?_
        refine LJ.yd rfl (Yd.mvI rfl) ?_
        refine LJ.yd rfl (Yd.add rfl rfl (by unfold I64; omega)) ?_
        refine LJ.yd rfl (Yd.asI rfl) ?_
        refine LJ.nil ?_
        refine CJ.region ?_
        refine LJ.yd rfl (Yd.add rfl rfl (by unfold I64; omega)) ?_
        refine LJ.yd rfl (Yd.mvI rfl) ?_
        refine LJ.nil ?_
        refine ⟨(k + 1, _), ?_, ⟨rfl, rfl, rfl, rfl, trivial⟩, ⟨rfl, rfl, trivial⟩, Ent.refl _, ?_⟩
        · refine ⟨by omega, ?_⟩
          have h19' : (s / 2 ^ k &&& 1 : Nat) = s / 2 ^ k % 2 := Nat.and_one_is_mod _
          rw [dropC hu14, smk, show s / 2 ^ k / 2 = s / 2 ^ (k + 1) by rw [Nat.div_div_eq_div_mul, Nat.pow_succ]] at hx
          refine ⟨by omega, by omega, ?_⟩
          split at hx <;> omega
        · first | omega | (dsimp only; omega) | (simp only []; omega)
      · refine LJ.nil ?_
        refine CJ.condF rfl ?_
        refine CJ.skip ?_
        refine CJ.region ?_
        refine LJ.yd rfl (Yd.add rfl rfl (by unfold I64; omega)) ?_
        refine LJ.yd rfl (Yd.mvI rfl) ?_
        refine LJ.nil ?_
        refine ⟨(k + 1, _), ?_, ⟨rfl, rfl, rfl, rfl, trivial⟩, ⟨rfl, rfl, trivial⟩, Ent.refl _, ?_⟩
        · refine ⟨by omega, ?_⟩
          have h19' : (s / 2 ^ k &&& 1 : Nat) = s / 2 ^ k % 2 := Nat.and_one_is_mod _
          rw [dropC hu14, smk, show s / 2 ^ k / 2 = s / 2 ^ (k + 1) by rw [Nat.div_div_eq_div_mul, Nat.pow_succ]] at hx
          refine ⟨by omega, by omega, ?_⟩
          split at hx <;> omega
        · first | omega | (dsimp only; omega) | (simp only []; omega)
    · refine LJ.nil ?_
      refine CJ.seq ?_
      refine CJ.condF rfl ?_
      refine CJ.exit ?_
      refine CJ.seq ?_
      refine CJ.region ?_
      refine LJ.yd rfl (Yd.mvI rfl) ?_
      refine LJ.yd rfl (Yd.asI rfl) ?_
      refine LJ.nil ?_
      refine CJ.ret ?_
      refine Fin.V (Res.one (ResV.tmp (v := .int _ _) rfl)) ?_
      rw [List.drop_of_length_le (by omega), smk] at hx; rw [← hx]; congr 1; omega
end Go.Proofs.Ytkojheinklgdeaa
