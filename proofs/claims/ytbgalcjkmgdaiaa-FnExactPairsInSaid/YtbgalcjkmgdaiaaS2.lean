/-
  Merging a list of one number: contracts of symMerge of Go's stable sort.
-/
import Derived.Test.YtbgalcjkmgdaiaaS1
namespace Go.Proofs.Ytbgalcjkmgdaiaa
open Go
set_option maxRecDepth 20000
set_option maxHeartbeats 1000000

theorem wrap_u {n : Int} (h0 : 0 ≤ n) (h1 : n ≤ 9223372036854775807) : IntKind.u64.wrap n = n := by
  simp only [IntKind.wrap, IntKind.bits, IntKind.signed]
  simp; omega
section
variable {P : Program} {ρ : Env} {T : TypeId} {A : Amb} {fs : List HProp}
theorem Yd.toU {x : Operand} {X Y : TypeId} {n : Int} [hX : TyUnd P X (.int .i64)] [hY : TyUnd P Y (.int .u64)] (hx : ev ρ x = .int .i64 n) (h0 : 0 ≤ n) (h1 : n ≤ 9223372036854775807) : Yd P (.convert X Y x) T ρ A fs (.int .u64 n) := by
  have := Yd.convert (P := P) (T := T) (A := A) (fs := fs) (X := X) (Y := Y) (l := .u64) hx
  rwa [wrap_u h0 h1] at this
theorem Yd.ofU {x : Operand} {X Y : TypeId} {n : Int} [hX : TyUnd P X (.int .u64)] [hY : TyUnd P Y (.int .i64)] (hx : ev ρ x = .int .u64 n) (h0 : 0 ≤ n) (h1 : n ≤ 9223372036854775807) : Yd P (.convert X Y x) T ρ A fs (.int .i64 n) := by
  have := Yd.convert (P := P) (T := T) (A := A) (fs := fs) (X := X) (Y := Y) (l := .i64) hx
  rwa [wrap_in (by unfold I64; omega)] at this
theorem Yd.half {X Y : TypeId} {x y : Operand} {k yk : IntKind} {a : Int} (hx : ev ρ x = .int k a) (hy : ev ρ y = .int yk 1) (h : 0 ≤ a) : Yd P (.binOp .shr X x y Y) T ρ A fs (.int k (a / 2)) := fun w _ => by
  have e : (eqGuard .shr X x y (.int k a) (.int yk 1)).run P w = .ok () w := rfl
  have e2 : min (1 : Int).toNat k.bits = 1 := by cases k <;> rfl
  simp only [dummy, execOp, hx, hy, Sem.run_bind, Result.andThen_ok, e, binOp, Op.shift]
  rw [e2]
  have : a.fdiv (2 ^ 1) = a / 2 := Int.fdiv_eq_ediv_of_nonneg a (by omega)
  rw [this]; rfl
end
theorem pw_ins {R : Int → Int → Prop} (hR : ∀ x y z, R x y → R y z → R x z) {V : List Int} {u : Int} {t : Nat} (hV : V.Pairwise R) (h1 : t = 0 ∨ ∃ v, V[t - 1]? = some v ∧ R v u) (h2 : t = V.length ∨ ∃ v, V[t]? = some v ∧ R u v) : (V.take t ++ u :: V.drop t).Pairwise R := by
  have hs : (V.take t ++ V.drop t).Pairwise R := by rw [List.take_append_drop]; exact hV
  rw [List.pairwise_append] at hs
  rw [List.pairwise_append, List.pairwise_cons]
  have ha : ∀ x ∈ V.take t, R x u := fun x hx => by
    rcases h1 with rfl | ⟨v, hv, hvu⟩
    · cases hx
    · by_cases h0 : t = 0
      · subst h0; cases hx
      · have e := takeC hv
        rw [show t - 1 + 1 = t by omega] at e
        have hp := hs.1
        rw [e, List.pairwise_append] at hp
        rw [e, List.mem_append, List.mem_singleton] at hx
        rcases hx with hx | rfl
        · exact hR _ _ _ (hp.2.2 x hx v (by simp)) hvu
        · exact hvu
  have hb : ∀ x ∈ V.drop t, R u x := fun x hx => by
    rcases h2 with rfl | ⟨v, hv, hvu⟩
    · rw [List.drop_of_length_le (Nat.le_refl _)] at hx; cases hx
    · have e := dropC hv
      have hp := hs.2.1
      rw [e, List.pairwise_cons] at hp
      rw [e] at hx
      rcases List.mem_cons.1 hx with rfl | hx
      · exact hvu
      · exact hR _ _ _ hvu (hp.1 x hx)
  refine ⟨hs.1, ⟨hb, hs.2.1⟩, fun x hx y hy => ?_⟩
  rcases List.mem_cons.1 hy with rfl | hy
  · exact ha x hx
  · exact hs.2.2 x hx y hy
theorem perm_ins (V : List Int) (u : Int) (t : Nat) : (V.take t ++ u :: V.drop t).Perm (u :: V) := by
  refine List.perm_middle.trans ?_
  rw [List.take_append_drop]
theorem get_mid {P V Q : List Int} {i : Nat} (h1 : P.length ≤ i) (h2 : i < P.length + V.length) : (P ++ (V ++ Q))[i]? = V[i - P.length]? := by
  rw [List.getElem?_append_right h1, List.getElem?_append_left (by omega)]
/-- u among V, after t of them -/
abbrev amid (P V Q : List Int) (u : Int) (t : Nat) : List Int := P ++ (V.take t ++ u :: (V.drop t ++ Q))
theorem mid_at {P V Q : List Int} {u : Int} {t i : Nat} (h : t ≤ V.length) (hi : i = P.length + t) : (amid P V Q u t)[i]? = some u := by
  have e : amid P V Q u t = (P ++ V.take t) ++ u :: (V.drop t ++ Q) := by simp
  have hl : (P ++ V.take t).length = i := by simp; omega
  rw [e, List.getElem?_append_right (by omega), hl, Nat.sub_self, List.getElem?_cons_zero]
theorem mid_form {P V Q : List Int} {u v : Int} {t : Nat} (hv : V[t]? = some v) : amid P V Q u t = (P ++ V.take t) ++ u :: ([] ++ v :: (V.drop (t + 1) ++ Q)) := by
  unfold amid; rw [dropC hv]; simp
theorem mid_form2 {P V Q : List Int} {u v : Int} {t : Nat} (hv : V[t]? = some v) : amid P V Q u (t + 1) = (P ++ V.take t) ++ v :: ([] ++ u :: (V.drop (t + 1) ++ Q)) := by
  unfold amid; rw [takeC hv]; simp
theorem len_take {P V : List Int} {t : Nat} (h : t ≤ V.length) : (P ++ V.take t).length = P.length + t := by simp; omega
theorem lt_of_get {V : List Int} {t : Nat} {v : Int} (hv : V[t]? = some v) : t < V.length := (List.getElem?_eq_some_iff.1 hv).1
theorem mid_next {P V Q : List Int} {u v : Int} {t i : Nat} (hv : V[t]? = some v) (hi : i = P.length + t + 1) : (amid P V Q u t)[i]? = some v := by
  have h := lt_of_get hv
  rw [mid_form hv]; exact get2b (by rw [len_take (by omega), List.length_nil]; omega)
theorem mid_prev {P V Q : List Int} {u v : Int} {t i : Nat} (hv : V[t]? = some v) (hi : i = P.length + t) : (amid P V Q u (t + 1))[i]? = some v := by
  have h := lt_of_get hv
  rw [mid_form2 hv]; exact get2a (by rw [len_take (by omega)]; exact hi)
theorem mid_up {P V Q : List Int} {u v : Int} {t i j : Nat} (hv : V[t]? = some v) (hi : i = P.length + t) (hj : j = P.length + t + 1) : ((amid P V Q u t).set i v).set j u = amid P V Q u (t + 1) := by
  have h := lt_of_get hv
  rw [mid_form hv, mid_form2 hv]
  exact set2 (by rw [len_take (by omega)]; exact hi) (by rw [len_take (by omega), List.length_nil]; omega)
theorem mid_down {P V Q : List Int} {u v : Int} {t i j : Nat} (hv : V[t]? = some v) (hi : i = P.length + t) (hj : j = P.length + t + 1) : ((amid P V Q u (t + 1)).set i u).set j v = amid P V Q u t := by
  have h := lt_of_get hv
  rw [mid_form hv, mid_form2 hv]
  exact set2 (by rw [len_take (by omega)]; exact hi) (by rw [len_take (by omega), List.length_nil]; omega)
theorem sym1_ok {A : Amb} {F : FuncId} {caps : List Value} {D : Int → Prop} {lt : Int → Int → Bool} {R : Int → Int → Prop} {g c ln : Nat} {P V Q l : List Int} {u a m b : Int} [TyFn Try.prog F] (hc : Cmp A F caps D lt) (hR : ∀ x y z, R x y → R y z → R x z)
    (hl : l = P ++ u :: (V ++ Q)) (hln : ln = l.length) (h1 : l.length ≤ 100000) (ha : a = P.length) (hm : m = P.length + 1) (hb : b = P.length + 1 + V.length) (hDu : D u) (hDv : ∀ x ∈ V, D x) (hV : V.Pairwise R) (hlt : ∀ v ∈ V, (lt v u = true → R v u) ∧ (lt v u = false → R u v)) :
    Ctr Try.prog 78 #[.slice (some ⟨g, 0, none⟩) ln c, vI a, vI m, vI b, .func (.func F) #[] caps.toArray] A [LR encI 3 1 (some ⟨g, 0, none⟩) c l] (fun v gs => v = .tuple #[] ∧ ∃ W, gs = [LR encI 3 1 (some ⟨g, 0, none⟩) c (P ++ (W ++ Q))] ∧ W.Perm (u :: V) ∧ W.Pairwise R) := by
  subst hln ha hm hb
  have hll : l.length = P.length + 1 + V.length + Q.length := by rw [hl]; simp; omega
  have hgu : l[P.length]? = some u := by rw [hl]; simp
  have hgv : ∀ i : Nat, P.length + 1 ≤ i → i < P.length + 1 + V.length → l[i]? = V[i - P.length - 1]? := fun i h1 h2 => by
    have := get_mid (P := P ++ [u]) (V := V) (Q := Q) (i := i) (by simp; omega) (by simp; omega)
    rw [hl, show P ++ u :: (V ++ Q) = P ++ [u] ++ (V ++ Q) by simp, this]; congr 1; simp; omega
  refine Ctr.body (args := [_, _, _, _, _]) Try.func78 rfl Try.ntmps78 Try.results78 (by simp) ?_
  refine CJ.seq ?_
  refine CJ.seq ?_
  refine CJ.region ?_
  refine LJ.yd rfl (Yd.mvI rfl) ?_
  refine LJ.yd rfl (Yd.mvI rfl) ?_
  refine LJ.yd rfl (Yd.sub rfl rfl (by unfold I64; omega)) ?_
  refine LJ.splitD rfl (Yd.eql rfl rfl) (fun h28 => ?_) (fun h28 => ?_)
  · refine LJ.nil ?_
    refine CJ.condT rfl ?_
    refine CJ.seq ?_
    refine CJ.region ?_
    refine LJ.yd rfl (Yd.mvI rfl) ?_
    refine LJ.yd rfl (Yd.asI rfl) ?_
    refine LJ.nil ?_
    refine CJ.seq ?_
    refine CJ.region ?_
    refine LJ.yd rfl (Yd.mvI rfl) ?_
    refine LJ.yd rfl (Yd.asI rfl) ?_
    refine LJ.nil ?_
    refine CJ.seq ?_
    refine CJ.block ?_
    refine CJ.loopK [0, 1, 2, 3, 4] (Int × Int) (fun ⟨i, j⟩ => (P.length : Int) + 1 ≤ i ∧ i ≤ j ∧ j ≤ P.length + 1 + V.length ∧ ((i - P.length - 1).toNat = 0 ∨ ∃ v, V[(i - P.length - 1).toNat - 1]? = some v ∧ R v u) ∧ ((j - P.length - 1).toNat = V.length ∨ ∃ v, V[(j - P.length - 1).toNat]? = some v ∧ R u v)) (fun ⟨i, j⟩ => [(10, vI i), (11, vI j)]) (fun ⟨i, j⟩ => (j - i).toNat) ((P.length : Int) + 1, (P.length : Int) + 1 + V.length) ?_ ⟨rfl, rfl, trivial⟩ ?_
    · exact ⟨by omega, by omega, by omega, .inl (by omega), .inl (by omega)⟩
    · rintro ⟨i, j⟩ σ ⟨hi0, hij, hj1, hiv, hjv⟩
      refine CJ.seq ?_
      refine CJ.seq ?_
      refine CJ.region ?_
      refine LJ.yd rfl (Yd.mvI rfl) ?_
      refine LJ.yd rfl (Yd.mvI rfl) ?_
      refine LJ.splitD rfl (Yd.lss rfl rfl) (fun h33 => ?_) (fun h33 => ?_)
      · refine LJ.nil ?_
        refine CJ.condT rfl ?_
        refine CJ.skip ?_
        refine CJ.block ?_
        refine CJ.seq ?_
        refine CJ.region ?_
        refine LJ.yd rfl (Yd.mvI rfl) ?_
        refine LJ.yd rfl (Yd.mvI rfl) ?_
        refine LJ.yd rfl (Yd.add rfl rfl (by unfold I64; omega)) ?_
        refine LJ.yd rfl (Yd.toU rfl (by omega) (by omega)) ?_
        refine LJ.yd rfl (Yd.half rfl rfl (by omega)) ?_
        refine LJ.yd rfl (Yd.ofU rfl (by omega) (by omega)) ?_
        refine LJ.yd rfl (Yd.asI rfl) ?_
        refine LJ.nil ?_
        refine CJ.seq ?_
        refine CJ.regionD [0] [] (by kernel_rfl) rfl ?_
        refine DJ.norm [_] [] rfl rfl ?_
        refine DJ.yd 0 rfl (by kernel_rfl) (by kernel_rfl) (by kernel_rfl) rfl rfl (Yd.mvF rfl) ?_
        refine DJ.yd 1 rfl (by kernel_rfl) (by kernel_rfl) (by kernel_rfl) rfl rfl (Yd.mvS rfl) ?_
        refine DJ.yd 2 rfl (by kernel_rfl) (by kernel_rfl) (by kernel_rfl) rfl rfl (Yd.mvI rfl) ?_
        refine DJ.idxF 0 rfl 3 rfl (by kernel_rfl) (by kernel_rfl) (by kernel_rfl) rfl rfl rfl rfl (by omega) (by first | rfl | omega | (simp; done) | (simp; omega) | (simp [upN_len]; omega) | (simp [idxBy_len]; omega) | (simp [marks_len]; omega) | (simp [upN_len]; done) | (simp [idxBy_len]; done) | (simp [marks_len]; done) | (simp at *; omega)) (by first | rfl | omega | (simp; done) | (simp; omega) | (simp [upN_len]; omega) | (simp [idxBy_len]; omega) | (simp [marks_len]; omega) | (simp [upN_len]; done) | (simp [idxBy_len]; done) | (simp [marks_len]; done) | (simp at *; omega)) (fun ib43 ia43 => ?_)
        refine DJ.ldF 4 rfl (by kernel_rfl) (by kernel_rfl) (by kernel_rfl) rfl rfl 0 0 (fun u => vI u) (fun _ => rfl) rfl ia43 rfl rfl (by first | rfl | omega | (simp; done) | (simp; omega) | (simp [upN_len]; omega) | (simp [idxBy_len]; omega) | (simp [marks_len]; omega) | (simp [upN_len]; done) | (simp [idxBy_len]; done) | (simp [marks_len]; done) | (simp at *; omega)) (fun u44 hu44 => ?_)
        try simp only [Int.toNat_natCast] at hu44
        rw [hgv _ (by omega) (by omega)] at hu44
        have hD44 := hDv u44 (List.mem_of_getElem? hu44)
        refine DJ.yd 5 rfl (by kernel_rfl) (by kernel_rfl) (by kernel_rfl) rfl rfl (Yd.mvS rfl) ?_
        refine DJ.yd 6 rfl (by kernel_rfl) (by kernel_rfl) (by kernel_rfl) rfl rfl (Yd.mvI rfl) ?_
        refine DJ.idxF 0 rfl 7 rfl (by kernel_rfl) (by kernel_rfl) (by kernel_rfl) rfl rfl rfl rfl (by omega) (by first | rfl | omega | (simp; done) | (simp; omega) | (simp [upN_len]; omega) | (simp [idxBy_len]; omega) | (simp [marks_len]; omega) | (simp [upN_len]; done) | (simp [idxBy_len]; done) | (simp [marks_len]; done) | (simp at *; omega)) (by first | rfl | omega | (simp; done) | (simp; omega) | (simp [upN_len]; omega) | (simp [idxBy_len]; omega) | (simp [marks_len]; omega) | (simp [upN_len]; done) | (simp [idxBy_len]; done) | (simp [marks_len]; done) | (simp at *; omega)) (fun ib47 ia47 => ?_)
        refine DJ.ldF 8 rfl (by kernel_rfl) (by kernel_rfl) (by kernel_rfl) rfl rfl 0 0 (fun u => vI u) (fun _ => rfl) rfl ia47 rfl rfl (by first | rfl | omega | (simp; done) | (simp; omega) | (simp [upN_len]; omega) | (simp [idxBy_len]; omega) | (simp [marks_len]; omega) | (simp [upN_len]; done) | (simp [idxBy_len]; done) | (simp [marks_len]; done) | (simp at *; omega)) (fun u48 hu48 => ?_)
        try simp only [Int.toNat_natCast] at hu48
        obtain rfl : u = u48 := by rw [hgu] at hu48; exact Option.some.inj hu48
        refine DJ.one (i := 9) (by kernel_rfl) ?_
        refine DO.callD0 rfl rfl rfl rfl (fun k0 hk0 dk0 k hk dk => hc ((A.ext k0).ext k) inferInstance _ _ hD44 hDu) ?_
        rintro _ _ ⟨c49, rfl, rfl, hc49⟩
        refine DJ.norm [_] [] rfl rfl ?_
        refine DJ.splitD 10 rfl (by kernel_rfl) (by kernel_rfl) (by kernel_rfl) rfl rfl (Yd.lss rfl rfl) (fun h50 => ?_) (fun h50 => ?_)
        · refine DJ.done (by kernel_rfl) ?_
          refine CJ.condT rfl ?_
          refine CJ.region ?_
          refine LJ.yd rfl (Yd.mvI rfl) ?_
          refine LJ.yd rfl (Yd.add rfl rfl (by unfold I64; omega)) ?_
          refine LJ.yd rfl (Yd.asI rfl) ?_
          refine LJ.nil ?_
          refine ⟨(_, _), ?_, ⟨rfl, rfl, rfl, rfl, rfl, trivial⟩, ⟨rfl, rfl, trivial⟩, Ent.refl _, ?_⟩
          · first
              | exact ⟨by omega, by omega, by omega, .inr ⟨u44, by rw [show ((i + j) / 2 + 1 - P.length - 1).toNat - 1 = ((i + j) / 2).toNat - P.length - 1 by omega]; exact hu44, (hlt u44 (List.mem_of_getElem? hu44)).1 (hc49.1 h50)⟩, hjv⟩
              | exact ⟨by omega, by omega, by omega, hiv, .inr ⟨u44, by rw [show ((i + j) / 2 - P.length - 1).toNat = ((i + j) / 2).toNat - P.length - 1 by omega]; exact hu44, (hlt u44 (List.mem_of_getElem? hu44)).2 (by cases h : lt u44 u with | false => rfl | true => exact absurd (hc49.2 h) h50)⟩⟩
          · first | omega | (dsimp only; omega) | (simp only []; omega)
        · refine DJ.done (by kernel_rfl) ?_
          refine CJ.condF rfl ?_
          refine CJ.region ?_
          refine LJ.yd rfl (Yd.mvI rfl) ?_
          refine LJ.yd rfl (Yd.asI rfl) ?_
          refine LJ.nil ?_
          refine ⟨(_, _), ?_, ⟨rfl, rfl, rfl, rfl, rfl, trivial⟩, ⟨rfl, rfl, trivial⟩, Ent.refl _, ?_⟩
          · first
              | exact ⟨by omega, by omega, by omega, .inr ⟨u44, by rw [show ((i + j) / 2 + 1 - P.length - 1).toNat - 1 = ((i + j) / 2).toNat - P.length - 1 by omega]; exact hu44, (hlt u44 (List.mem_of_getElem? hu44)).1 (hc49.1 h50)⟩, hjv⟩
              | exact ⟨by omega, by omega, by omega, hiv, .inr ⟨u44, by rw [show ((i + j) / 2 - P.length - 1).toNat = ((i + j) / 2).toNat - P.length - 1 by omega]; exact hu44, (hlt u44 (List.mem_of_getElem? hu44)).2 (by cases h : lt u44 u with | false => rfl | true => exact absurd (hc49.2 h) h50)⟩⟩
          · first | omega | (dsimp only; omega) | (simp only []; omega)
      · refine LJ.nil ?_
        refine CJ.condF rfl ?_
        refine CJ.exit ?_
        refine CJ.seq ?_
        refine CJ.seq ?_
        refine CJ.region ?_
        refine LJ.yd rfl (Yd.mvI rfl) ?_
        refine LJ.yd rfl (Yd.asI rfl) ?_
        refine LJ.nil ?_
        refine CJ.block ?_
        refine CJ.norm [LR encI 3 1 (some ⟨g, 0, none⟩) c (amid P V Q u ((P.length : Int) - P.length).toNat)] (by rw [hl, show ((P.length : Int) - P.length).toNat = 0 by omega]; simp [amid]) ?_
        refine CJ.loopF [0, 1, 2, 3, 4, 10] Int (fun z => (P.length : Int) ≤ z ∧ z ≤ i - 1) (fun z => [(13, vI z)]) (fun z => [LR encI 3 1 (some ⟨g, 0, none⟩) c (amid P V Q u (z - P.length).toNat)]) (fun z => (i - z).toNat) (P.length) [] [] [0] rfl rfl rfl ?_ ⟨rfl, trivial⟩ ?_
        · exact ⟨by omega, by omega⟩
        · rintro z σ ⟨hz0, hz1⟩
          refine CJ.norm [_] rfl ?_
          have hzl : (amid P V Q u (z - P.length).toNat).length = l.length := by simp; omega
          refine CJ.seq ?_
          refine CJ.seq ?_
          refine CJ.region ?_
          refine LJ.yd rfl (Yd.mvI rfl) ?_
          refine LJ.yd rfl (Yd.mvI rfl) ?_
          refine LJ.yd rfl (Yd.sub rfl rfl (by unfold I64; omega)) ?_
          refine LJ.splitD rfl (Yd.lss rfl rfl) (fun h58 => ?_) (fun h58 => ?_)
          · refine LJ.nil ?_
            refine CJ.condT rfl ?_
            refine CJ.skip ?_
            refine CJ.seq ?_
            refine CJ.block ?_
            refine CJ.regionD [] [0] (by kernel_rfl) rfl ?_
            refine DJ.norm [] [_] rfl rfl ?_
            refine DJ.yd 0 rfl (by kernel_rfl) (by kernel_rfl) (by kernel_rfl) rfl rfl (Yd.mvS rfl) ?_
            refine DJ.yd 1 rfl (by kernel_rfl) (by kernel_rfl) (by kernel_rfl) rfl rfl (Yd.mvI rfl) ?_
            refine DJ.yd 2 rfl (by kernel_rfl) (by kernel_rfl) (by kernel_rfl) rfl rfl (Yd.mvS rfl) ?_
            refine DJ.yd 3 rfl (by kernel_rfl) (by kernel_rfl) (by kernel_rfl) rfl rfl (Yd.mvI rfl) ?_
            refine DJ.yd 4 rfl (by kernel_rfl) (by kernel_rfl) (by kernel_rfl) rfl rfl (Yd.add rfl rfl (by unfold I64; omega)) ?_
            refine DJ.yd 5 rfl (by kernel_rfl) (by kernel_rfl) (by kernel_rfl) rfl rfl (Yd.mvS rfl) ?_
            refine DJ.yd 6 rfl (by kernel_rfl) (by kernel_rfl) (by kernel_rfl) rfl rfl (Yd.mvI rfl) ?_
            refine DJ.yd 7 rfl (by kernel_rfl) (by kernel_rfl) (by kernel_rfl) rfl rfl (Yd.add rfl rfl (by unfold I64; omega)) ?_
            refine DJ.idxR 0 rfl 8 rfl (by kernel_rfl) (by kernel_rfl) (by kernel_rfl) rfl rfl rfl rfl (by omega) (by first | rfl | omega | (simp; done) | (simp; omega) | (simp [upN_len]; omega) | (simp [idxBy_len]; omega) | (simp [marks_len]; omega) | (simp [upN_len]; done) | (simp [idxBy_len]; done) | (simp [marks_len]; done) | (simp at *; omega)) (by first | rfl | omega | (simp; done) | (simp; omega) | (simp [upN_len]; omega) | (simp [idxBy_len]; omega) | (simp [marks_len]; omega) | (simp [upN_len]; done) | (simp [idxBy_len]; done) | (simp [marks_len]; done) | (simp at *; omega)) (fun ib69 ia69 => ?_)
            refine DJ.yd 10 rfl (by kernel_rfl) (by kernel_rfl) (by kernel_rfl) rfl rfl (Yd.mvS rfl) ?_
            refine DJ.yd 11 rfl (by kernel_rfl) (by kernel_rfl) (by kernel_rfl) rfl rfl (Yd.mvI rfl) ?_
            refine DJ.idxR 0 rfl 12 rfl (by kernel_rfl) (by kernel_rfl) (by kernel_rfl) rfl rfl rfl rfl (by omega) (by first | rfl | omega | (simp; done) | (simp; omega) | (simp [upN_len]; omega) | (simp [idxBy_len]; omega) | (simp [marks_len]; omega) | (simp [upN_len]; done) | (simp [idxBy_len]; done) | (simp [marks_len]; done) | (simp at *; omega)) (by first | rfl | omega | (simp; done) | (simp; omega) | (simp [upN_len]; omega) | (simp [idxBy_len]; omega) | (simp [marks_len]; omega) | (simp [upN_len]; done) | (simp [idxBy_len]; done) | (simp [marks_len]; done) | (simp at *; omega)) (fun ib73 ia73 => ?_)
            refine DJ.two (i := 9) (j := 13) (by kernel_rfl) ?_ ?_
            · refine DO.ldR rfl rfl rfl 0 0 (fun u => vI u) (fun _ => rfl) rfl ia69 rfl rfl (by first | rfl | omega | (simp; done) | (simp; omega) | (simp [upN_len]; omega) | (simp [idxBy_len]; omega) | (simp [marks_len]; omega) | (simp [upN_len]; done) | (simp [idxBy_len]; done) | (simp [marks_len]; done) | (simp at *; omega)) (fun u70 hu70 => ?_)
              try simp only [Int.toNat_natCast] at hu70
              refine DJ.one (i := 13) (by kernel_rfl) ?_
              refine DO.ldR rfl rfl rfl 0 0 (fun u => vI u) (fun _ => rfl) rfl ia73 rfl rfl (by first | rfl | omega | (simp; done) | (simp; omega) | (simp [upN_len]; omega) | (simp [idxBy_len]; omega) | (simp [marks_len]; omega) | (simp [upN_len]; done) | (simp [idxBy_len]; done) | (simp [marks_len]; done) | (simp at *; omega)) (fun u74 hu74 => ?_)
              try simp only [Int.toNat_natCast] at hu74
              refine DJ.idxR 0 rfl 14 rfl (by kernel_rfl) (by kernel_rfl) (by kernel_rfl) rfl rfl rfl rfl (by omega) (by first | rfl | omega | (simp; done) | (simp; omega) | (simp [upN_len]; omega) | (simp [idxBy_len]; omega) | (simp [marks_len]; omega) | (simp [upN_len]; done) | (simp [idxBy_len]; done) | (simp [marks_len]; done) | (simp at *; omega)) (by first | rfl | omega | (simp; done) | (simp; omega) | (simp [upN_len]; omega) | (simp [idxBy_len]; omega) | (simp [marks_len]; omega) | (simp [upN_len]; done) | (simp [idxBy_len]; done) | (simp [marks_len]; done) | (simp at *; omega)) (fun ib75 ia75 => ?_)
              refine DJ.one (i := 15) (by kernel_rfl) ?_
              refine DO.op rfl rfl rfl (fun k0 hk0 dk0 => OpR.st1 (enc := encI) (e1 := fun u => vI u) 0 (fun _ => rfl) (fun _ => rfl) (fun _ => rfl) rfl ia75 rfl rfl rfl (by first | rfl | omega | (simp; done) | (simp; omega) | (simp [upN_len]; omega) | (simp [idxBy_len]; omega) | (simp [marks_len]; omega) | (simp [upN_len]; done) | (simp [idxBy_len]; done) | (simp [marks_len]; done) | (simp at *; omega))) ?_
              rintro _ _ ⟨rfl, rfl⟩
              refine DJ.norm [] [_] rfl rfl ?_
              refine DJ.idxR 0 rfl 16 rfl (by kernel_rfl) (by kernel_rfl) (by kernel_rfl) rfl rfl rfl rfl (by omega) (by first | rfl | omega | (simp; done) | (simp; omega) | (simp [upN_len]; omega) | (simp [idxBy_len]; omega) | (simp [marks_len]; omega) | (simp [upN_len]; done) | (simp [idxBy_len]; done) | (simp [marks_len]; done) | (simp at *; omega)) (by first | rfl | omega | (simp; done) | (simp; omega) | (simp [upN_len]; omega) | (simp [idxBy_len]; omega) | (simp [marks_len]; omega) | (simp [upN_len]; done) | (simp [idxBy_len]; done) | (simp [marks_len]; done) | (simp at *; omega)) (fun ib76 ia76 => ?_)
              refine DJ.one (i := 17) (by kernel_rfl) ?_
              refine DO.op rfl rfl rfl (fun k0 hk0 dk0 => OpR.st1 (enc := encI) (e1 := fun u => vI u) 0 (fun _ => rfl) (fun _ => rfl) (fun _ => rfl) rfl ia76 rfl rfl rfl (by first | rfl | omega | (simp; done) | (simp; omega) | (simp [upN_len]; omega) | (simp [idxBy_len]; omega) | (simp [marks_len]; omega) | (simp [upN_len]; done) | (simp [idxBy_len]; done) | (simp [marks_len]; done) | (simp at *; omega))) ?_
              rintro _ _ ⟨rfl, rfl⟩
              refine DJ.norm [] [_] rfl rfl ?_
              refine DJ.done (by kernel_rfl) ?_
              obtain ⟨v, hv⟩ := someC (l := V) (j := (z - P.length).toNat) (by omega)
              rw [mid_next hv (by omega)] at hu70
              rw [mid_at (by omega) (by omega)] at hu74
              cases hu70
              cases hu74
              refine CJ.norm [LR encI 3 1 (some ⟨g, 0, none⟩) c (amid P V Q u (z + 1 - P.length).toNat)] ?_ ?_
              · refine congrArg (fun z => [LR encI 3 1 (some ⟨g, 0, none⟩) c z]) ?_
                rw [show (z + 1 - P.length).toNat = (z - P.length).toNat + 1 by omega]
                first
                  | exact mid_up hv (by omega) (by omega)
                  | (rw [List.set_comm _ _ (by omega)]; exact mid_up hv (by omega) (by omega))
              refine CJ.region ?_
              refine LJ.yd rfl (Yd.mvI rfl) ?_
              refine LJ.yd rfl (Yd.add rfl rfl (by unfold I64; omega)) ?_
              refine LJ.yd rfl (Yd.asI rfl) ?_
              refine LJ.nil ?_
              refine ⟨_, ?_, ⟨rfl, rfl, rfl, rfl, rfl, rfl, trivial⟩, ⟨rfl, trivial⟩, Ent.refl _, ?_⟩
              · first | assumption | omega | (simp_all; done) | (simp_all; omega)
              · first | omega | (dsimp only; omega) | (simp only []; omega)
            · refine DO.ldR rfl rfl rfl 0 0 (fun u => vI u) (fun _ => rfl) rfl ia73 rfl rfl (by first | rfl | omega | (simp; done) | (simp; omega) | (simp [upN_len]; omega) | (simp [idxBy_len]; omega) | (simp [marks_len]; omega) | (simp [upN_len]; done) | (simp [idxBy_len]; done) | (simp [marks_len]; done) | (simp at *; omega)) (fun u74 hu74 => ?_)
              try simp only [Int.toNat_natCast] at hu74
              refine DJ.one (i := 9) (by kernel_rfl) ?_
              refine DO.ldR rfl rfl rfl 0 0 (fun u => vI u) (fun _ => rfl) rfl ia69 rfl rfl (by first | rfl | omega | (simp; done) | (simp; omega) | (simp [upN_len]; omega) | (simp [idxBy_len]; omega) | (simp [marks_len]; omega) | (simp [upN_len]; done) | (simp [idxBy_len]; done) | (simp [marks_len]; done) | (simp at *; omega)) (fun u70 hu70 => ?_)
              try simp only [Int.toNat_natCast] at hu70
              refine DJ.idxR 0 rfl 14 rfl (by kernel_rfl) (by kernel_rfl) (by kernel_rfl) rfl rfl rfl rfl (by omega) (by first | rfl | omega | (simp; done) | (simp; omega) | (simp [upN_len]; omega) | (simp [idxBy_len]; omega) | (simp [marks_len]; omega) | (simp [upN_len]; done) | (simp [idxBy_len]; done) | (simp [marks_len]; done) | (simp at *; omega)) (by first | rfl | omega | (simp; done) | (simp; omega) | (simp [upN_len]; omega) | (simp [idxBy_len]; omega) | (simp [marks_len]; omega) | (simp [upN_len]; done) | (simp [idxBy_len]; done) | (simp [marks_len]; done) | (simp at *; omega)) (fun ib75 ia75 => ?_)
              refine DJ.one (i := 15) (by kernel_rfl) ?_
              refine DO.op rfl rfl rfl (fun k0 hk0 dk0 => OpR.st1 (enc := encI) (e1 := fun u => vI u) 0 (fun _ => rfl) (fun _ => rfl) (fun _ => rfl) rfl ia75 rfl rfl rfl (by first | rfl | omega | (simp; done) | (simp; omega) | (simp [upN_len]; omega) | (simp [idxBy_len]; omega) | (simp [marks_len]; omega) | (simp [upN_len]; done) | (simp [idxBy_len]; done) | (simp [marks_len]; done) | (simp at *; omega))) ?_
              rintro _ _ ⟨rfl, rfl⟩
              refine DJ.norm [] [_] rfl rfl ?_
              refine DJ.idxR 0 rfl 16 rfl (by kernel_rfl) (by kernel_rfl) (by kernel_rfl) rfl rfl rfl rfl (by omega) (by first | rfl | omega | (simp; done) | (simp; omega) | (simp [upN_len]; omega) | (simp [idxBy_len]; omega) | (simp [marks_len]; omega) | (simp [upN_len]; done) | (simp [idxBy_len]; done) | (simp [marks_len]; done) | (simp at *; omega)) (by first | rfl | omega | (simp; done) | (simp; omega) | (simp [upN_len]; omega) | (simp [idxBy_len]; omega) | (simp [marks_len]; omega) | (simp [upN_len]; done) | (simp [idxBy_len]; done) | (simp [marks_len]; done) | (simp at *; omega)) (fun ib76 ia76 => ?_)
              refine DJ.one (i := 17) (by kernel_rfl) ?_
              refine DO.op rfl rfl rfl (fun k0 hk0 dk0 => OpR.st1 (enc := encI) (e1 := fun u => vI u) 0 (fun _ => rfl) (fun _ => rfl) (fun _ => rfl) rfl ia76 rfl rfl rfl (by first | rfl | omega | (simp; done) | (simp; omega) | (simp [upN_len]; omega) | (simp [idxBy_len]; omega) | (simp [marks_len]; omega) | (simp [upN_len]; done) | (simp [idxBy_len]; done) | (simp [marks_len]; done) | (simp at *; omega))) ?_
              rintro _ _ ⟨rfl, rfl⟩
              refine DJ.norm [] [_] rfl rfl ?_
              refine DJ.done (by kernel_rfl) ?_
              obtain ⟨v, hv⟩ := someC (l := V) (j := (z - P.length).toNat) (by omega)
              rw [mid_next hv (by omega)] at hu70
              rw [mid_at (by omega) (by omega)] at hu74
              cases hu70
              cases hu74
              refine CJ.norm [LR encI 3 1 (some ⟨g, 0, none⟩) c (amid P V Q u (z + 1 - P.length).toNat)] ?_ ?_
              · refine congrArg (fun z => [LR encI 3 1 (some ⟨g, 0, none⟩) c z]) ?_
                rw [show (z + 1 - P.length).toNat = (z - P.length).toNat + 1 by omega]
                first
                  | exact mid_up hv (by omega) (by omega)
                  | (rw [List.set_comm _ _ (by omega)]; exact mid_up hv (by omega) (by omega))
              refine CJ.region ?_
              refine LJ.yd rfl (Yd.mvI rfl) ?_
              refine LJ.yd rfl (Yd.add rfl rfl (by unfold I64; omega)) ?_
              refine LJ.yd rfl (Yd.asI rfl) ?_
              refine LJ.nil ?_
              refine ⟨_, ?_, ⟨rfl, rfl, rfl, rfl, rfl, rfl, trivial⟩, ⟨rfl, trivial⟩, Ent.refl _, ?_⟩
              · first | assumption | omega | (simp_all; done) | (simp_all; omega)
              · first | omega | (dsimp only; omega) | (simp only []; omega)
          · refine LJ.nil ?_
            refine CJ.condF rfl ?_
            refine CJ.exit ?_
            refine CJ.ret ?_
            have ez : (z - P.length).toNat = (i - P.length - 1).toNat := by omega
            have ej : j = i := by omega
            rw [ej] at hjv
            rw [ez]
            exact Fin.R [_] Res.none ⟨rfl, V.take (i - P.length - 1).toNat ++ u :: V.drop (i - P.length - 1).toNat, by rw [List.append_assoc, List.cons_append], perm_ins V u _, pw_ins hR hV hiv hjv⟩ (Ent.refl _)
  · exfalso; omega
theorem sym2_ok {A : Amb} {F : FuncId} {caps : List Value} {D : Int → Prop} {lt : Int → Int → Bool} {R : Int → Int → Prop} {g c ln : Nat} {P U Q l : List Int} {w a m b : Int} [TyFn Try.prog F] (hc : Cmp A F caps D lt) (hR : ∀ x y z, R x y → R y z → R x z)
    (hl : l = P ++ (U ++ w :: Q)) (hln : ln = l.length) (h1 : l.length ≤ 100000) (h2 : 2 ≤ U.length) (ha : a = P.length) (hm : m = P.length + U.length) (hb : b = P.length + U.length + 1) (hDv : ∀ x ∈ U, D x) (hDw : D w) (hU : U.Pairwise R) (hlt : ∀ u ∈ U, (lt w u = true → R w u) ∧ (lt w u = false → R u w)) :
    Ctr Try.prog 78 #[.slice (some ⟨g, 0, none⟩) ln c, vI a, vI m, vI b, .func (.func F) #[] caps.toArray] A [LR encI 3 1 (some ⟨g, 0, none⟩) c l] (fun v gs => v = .tuple #[] ∧ ∃ W, gs = [LR encI 3 1 (some ⟨g, 0, none⟩) c (P ++ (W ++ Q))] ∧ W.Perm (U ++ [w]) ∧ W.Pairwise R) := by
  subst hln ha hm hb
  have hll : l.length = P.length + 1 + U.length + Q.length := by rw [hl]; simp; omega
  have hgw : l[P.length + U.length]? = some w := by
    rw [hl, List.getElem?_append_right (by omega), List.getElem?_append_right (by omega), show P.length + U.length - P.length - U.length = 0 by omega]; rfl
  have hgv : ∀ i : Nat, P.length ≤ i → i < P.length + U.length → l[i]? = U[i - P.length]? := fun i h1 h2 => by rw [hl]; exact get_mid h1 h2
  refine Ctr.body (args := [_, _, _, _, _]) Try.func78 rfl Try.ntmps78 Try.results78 (by simp) ?_
  refine CJ.seq ?_
  refine CJ.seq ?_
  refine CJ.region ?_
  refine LJ.yd rfl (Yd.mvI rfl) ?_
  refine LJ.yd rfl (Yd.mvI rfl) ?_
  refine LJ.yd rfl (Yd.sub rfl rfl (by unfold I64; omega)) ?_
  refine LJ.splitD rfl (Yd.eql rfl rfl) (fun h28 => ?_) (fun h28 => ?_)
  · exfalso; omega
  · refine LJ.nil ?_
    refine CJ.condF rfl ?_
    refine CJ.skip ?_
    refine CJ.seq ?_
    refine CJ.seq ?_
    refine CJ.region ?_
    refine LJ.yd rfl (Yd.mvI rfl) ?_
    refine LJ.yd rfl (Yd.mvI rfl) ?_
    refine LJ.yd rfl (Yd.sub rfl rfl (by unfold I64; omega)) ?_
    refine LJ.splitD rfl (Yd.eql rfl rfl) (fun h80 => ?_) (fun h80 => ?_)
    · refine LJ.nil ?_
      refine CJ.condT rfl ?_
      refine CJ.seq ?_
      refine CJ.region ?_
      refine LJ.yd rfl (Yd.mvI rfl) ?_
      refine LJ.yd rfl (Yd.asI rfl) ?_
      refine LJ.nil ?_
      refine CJ.seq ?_
      refine CJ.region ?_
      refine LJ.yd rfl (Yd.mvI rfl) ?_
      refine LJ.yd rfl (Yd.asI rfl) ?_
      refine LJ.nil ?_
      refine CJ.seq ?_
      refine CJ.block ?_
      refine CJ.loopK [0, 1, 2, 3, 4] (Int × Int) (fun ⟨i, j⟩ => (P.length : Int) ≤ i ∧ i ≤ j ∧ j ≤ P.length + U.length ∧ ((i - P.length).toNat = 0 ∨ ∃ v, U[(i - P.length).toNat - 1]? = some v ∧ R v w) ∧ ((j - P.length).toNat = U.length ∨ ∃ v, U[(j - P.length).toNat]? = some v ∧ R w v)) (fun ⟨i, j⟩ => [(14, vI i), (15, vI j)]) (fun ⟨i, j⟩ => (j - i).toNat) (P.length, (P.length : Int) + U.length) ?_ ⟨rfl, rfl, trivial⟩ ?_
      · exact ⟨by omega, by omega, by omega, .inl (by omega), .inl (by omega)⟩
      · rintro ⟨i, j⟩ σ ⟨hi0, hij, hj1, hiv, hjv⟩
        refine CJ.seq ?_
        refine CJ.seq ?_
        refine CJ.region ?_
        refine LJ.yd rfl (Yd.mvI rfl) ?_
        refine LJ.yd rfl (Yd.mvI rfl) ?_
        refine LJ.splitD rfl (Yd.lss rfl rfl) (fun h85 => ?_) (fun h85 => ?_)
        · refine LJ.nil ?_
          refine CJ.condT rfl ?_
          refine CJ.skip ?_
          refine CJ.block ?_
          refine CJ.seq ?_
          refine CJ.region ?_
          refine LJ.yd rfl (Yd.mvI rfl) ?_
          refine LJ.yd rfl (Yd.mvI rfl) ?_
          refine LJ.yd rfl (Yd.add rfl rfl (by unfold I64; omega)) ?_
          refine LJ.yd rfl (Yd.toU rfl (by omega) (by omega)) ?_
          refine LJ.yd rfl (Yd.half rfl rfl (by omega)) ?_
          refine LJ.yd rfl (Yd.ofU rfl (by omega) (by omega)) ?_
          refine LJ.yd rfl (Yd.asI rfl) ?_
          refine LJ.nil ?_
          refine CJ.seq ?_
          refine CJ.regionD [0] [] (by kernel_rfl) rfl ?_
          refine DJ.norm [_] [] rfl rfl ?_
          refine DJ.yd 0 rfl (by kernel_rfl) (by kernel_rfl) (by kernel_rfl) rfl rfl (Yd.mvF rfl) ?_
          refine DJ.yd 1 rfl (by kernel_rfl) (by kernel_rfl) (by kernel_rfl) rfl rfl (Yd.mvS rfl) ?_
          refine DJ.yd 2 rfl (by kernel_rfl) (by kernel_rfl) (by kernel_rfl) rfl rfl (Yd.mvI rfl) ?_
          refine DJ.idxF 0 rfl 3 rfl (by kernel_rfl) (by kernel_rfl) (by kernel_rfl) rfl rfl rfl rfl (by omega) (by first | rfl | omega | (simp; done) | (simp; omega) | (simp [upN_len]; omega) | (simp [idxBy_len]; omega) | (simp [marks_len]; omega) | (simp [upN_len]; done) | (simp [idxBy_len]; done) | (simp [marks_len]; done) | (simp at *; omega)) (by first | rfl | omega | (simp; done) | (simp; omega) | (simp [upN_len]; omega) | (simp [idxBy_len]; omega) | (simp [marks_len]; omega) | (simp [upN_len]; done) | (simp [idxBy_len]; done) | (simp [marks_len]; done) | (simp at *; omega)) (fun ib95 ia95 => ?_)
          refine DJ.ldF 4 rfl (by kernel_rfl) (by kernel_rfl) (by kernel_rfl) rfl rfl 0 0 (fun u => vI u) (fun _ => rfl) rfl ia95 rfl rfl (by first | rfl | omega | (simp; done) | (simp; omega) | (simp [upN_len]; omega) | (simp [idxBy_len]; omega) | (simp [marks_len]; omega) | (simp [upN_len]; done) | (simp [idxBy_len]; done) | (simp [marks_len]; done) | (simp at *; omega)) (fun u96 hu96 => ?_)
          try simp only [Int.toNat_natCast] at hu96
          obtain rfl : w = u96 := by rw [show ((P.length : Int) + U.length).toNat = P.length + U.length by omega, hgw] at hu96; exact Option.some.inj hu96
          refine DJ.yd 5 rfl (by kernel_rfl) (by kernel_rfl) (by kernel_rfl) rfl rfl (Yd.mvS rfl) ?_
          refine DJ.yd 6 rfl (by kernel_rfl) (by kernel_rfl) (by kernel_rfl) rfl rfl (Yd.mvI rfl) ?_
          refine DJ.idxF 0 rfl 7 rfl (by kernel_rfl) (by kernel_rfl) (by kernel_rfl) rfl rfl rfl rfl (by omega) (by first | rfl | omega | (simp; done) | (simp; omega) | (simp [upN_len]; omega) | (simp [idxBy_len]; omega) | (simp [marks_len]; omega) | (simp [upN_len]; done) | (simp [idxBy_len]; done) | (simp [marks_len]; done) | (simp at *; omega)) (by first | rfl | omega | (simp; done) | (simp; omega) | (simp [upN_len]; omega) | (simp [idxBy_len]; omega) | (simp [marks_len]; omega) | (simp [upN_len]; done) | (simp [idxBy_len]; done) | (simp [marks_len]; done) | (simp at *; omega)) (fun ib99 ia99 => ?_)
          refine DJ.ldF 8 rfl (by kernel_rfl) (by kernel_rfl) (by kernel_rfl) rfl rfl 0 0 (fun u => vI u) (fun _ => rfl) rfl ia99 rfl rfl (by first | rfl | omega | (simp; done) | (simp; omega) | (simp [upN_len]; omega) | (simp [idxBy_len]; omega) | (simp [marks_len]; omega) | (simp [upN_len]; done) | (simp [idxBy_len]; done) | (simp [marks_len]; done) | (simp at *; omega)) (fun u100 hu100 => ?_)
          try simp only [Int.toNat_natCast] at hu100
          rw [hgv _ (by omega) (by omega)] at hu100
          have hD100 := hDv u100 (List.mem_of_getElem? hu100)
          refine DJ.one (i := 9) (by kernel_rfl) ?_
          refine DO.callD0 rfl rfl rfl rfl (fun k0 hk0 dk0 k hk dk => hc ((A.ext k0).ext k) inferInstance _ _ hDw hD100) ?_
          rintro _ _ ⟨c101, rfl, rfl, hc101⟩
          refine DJ.norm [_] [] rfl rfl ?_
          refine DJ.splitD 10 rfl (by kernel_rfl) (by kernel_rfl) (by kernel_rfl) rfl rfl (Yd.lss rfl rfl) (fun h102 => ?_) (fun h102 => ?_)
          · refine DJ.yd 11 rfl (by kernel_rfl) (by kernel_rfl) (by kernel_rfl) rfl rfl (Yd.not rfl) ?_
            refine DJ.done (by kernel_rfl) ?_
            refine CJ.condF rfl ?_
            refine CJ.region ?_
            refine LJ.yd rfl (Yd.mvI rfl) ?_
            refine LJ.yd rfl (Yd.asI rfl) ?_
            refine LJ.nil ?_
            refine ⟨(_, _), ?_, ⟨rfl, rfl, rfl, rfl, rfl, trivial⟩, ⟨rfl, rfl, trivial⟩, Ent.refl _, ?_⟩
            · first
                | exact ⟨by omega, by omega, by omega, .inr ⟨u100, by rw [show ((i + j) / 2 + 1 - P.length).toNat - 1 = ((i + j) / 2).toNat - P.length by omega]; exact hu100, (hlt u100 (List.mem_of_getElem? hu100)).2 (by cases h : lt w u100 with | false => rfl | true => exact absurd (hc101.2 h) h102)⟩, hjv⟩
                | exact ⟨by omega, by omega, by omega, hiv, .inr ⟨u100, by rw [show ((i + j) / 2 - P.length).toNat = ((i + j) / 2).toNat - P.length by omega]; exact hu100, (hlt u100 (List.mem_of_getElem? hu100)).1 (hc101.1 h102)⟩⟩
            · first | omega | (dsimp only; omega) | (simp only []; omega)
          · refine DJ.yd 11 rfl (by kernel_rfl) (by kernel_rfl) (by kernel_rfl) rfl rfl (Yd.not rfl) ?_
            refine DJ.done (by kernel_rfl) ?_
            refine CJ.condT rfl ?_
            refine CJ.region ?_
            refine LJ.yd rfl (Yd.mvI rfl) ?_
            refine LJ.yd rfl (Yd.add rfl rfl (by unfold I64; omega)) ?_
            refine LJ.yd rfl (Yd.asI rfl) ?_
            refine LJ.nil ?_
            refine ⟨(_, _), ?_, ⟨rfl, rfl, rfl, rfl, rfl, trivial⟩, ⟨rfl, rfl, trivial⟩, Ent.refl _, ?_⟩
            · first
                | exact ⟨by omega, by omega, by omega, .inr ⟨u100, by rw [show ((i + j) / 2 + 1 - P.length).toNat - 1 = ((i + j) / 2).toNat - P.length by omega]; exact hu100, (hlt u100 (List.mem_of_getElem? hu100)).2 (by cases h : lt w u100 with | false => rfl | true => exact absurd (hc101.2 h) h102)⟩, hjv⟩
                | exact ⟨by omega, by omega, by omega, hiv, .inr ⟨u100, by rw [show ((i + j) / 2 - P.length).toNat = ((i + j) / 2).toNat - P.length by omega]; exact hu100, (hlt u100 (List.mem_of_getElem? hu100)).1 (hc101.1 h102)⟩⟩
            · first | omega | (dsimp only; omega) | (simp only []; omega)
        · refine LJ.nil ?_
          refine CJ.condF rfl ?_
          refine CJ.exit ?_
          refine CJ.seq ?_
          refine CJ.seq ?_
          refine CJ.region ?_
          refine LJ.yd rfl (Yd.mvI rfl) ?_
          refine LJ.yd rfl (Yd.asI rfl) ?_
          refine LJ.nil ?_
          refine CJ.block ?_
          refine CJ.norm [LR encI 3 1 (some ⟨g, 0, none⟩) c (amid P U Q w ((P.length : Int) + U.length - P.length).toNat)] (by rw [hl, show ((P.length : Int) + U.length - P.length).toNat = U.length by omega]; simp [amid]) ?_
          refine CJ.loopF [0, 1, 2, 3, 4, 14] Int (fun z => i ≤ z ∧ z ≤ P.length + U.length) (fun z => [(17, vI z)]) (fun z => [LR encI 3 1 (some ⟨g, 0, none⟩) c (amid P U Q w (z - P.length).toNat)]) (fun z => (z - i).toNat) ((P.length : Int) + U.length) [] [] [0] rfl rfl rfl ?_ ⟨rfl, trivial⟩ ?_
          · exact ⟨by omega, by omega⟩
          · rintro z σ ⟨hz0, hz1⟩
            refine CJ.norm [_] rfl ?_
            have hzl : (amid P U Q w (z - P.length).toNat).length = l.length := by simp; omega
            refine CJ.seq ?_
            refine CJ.seq ?_
            refine CJ.region ?_
            refine LJ.yd rfl (Yd.mvI rfl) ?_
            refine LJ.yd rfl (Yd.mvI rfl) ?_
            refine LJ.splitD rfl (Yd.gtr rfl rfl) (fun h110 => ?_) (fun h110 => ?_)
            · refine LJ.nil ?_
              refine CJ.condT rfl ?_
              refine CJ.skip ?_
              refine CJ.seq ?_
              refine CJ.block ?_
              refine CJ.regionD [] [0] (by kernel_rfl) rfl ?_
              refine DJ.norm [] [_] rfl rfl ?_
              refine DJ.yd 0 rfl (by kernel_rfl) (by kernel_rfl) (by kernel_rfl) rfl rfl (Yd.mvS rfl) ?_
              refine DJ.yd 1 rfl (by kernel_rfl) (by kernel_rfl) (by kernel_rfl) rfl rfl (Yd.mvI rfl) ?_
              refine DJ.yd 2 rfl (by kernel_rfl) (by kernel_rfl) (by kernel_rfl) rfl rfl (Yd.mvS rfl) ?_
              refine DJ.yd 3 rfl (by kernel_rfl) (by kernel_rfl) (by kernel_rfl) rfl rfl (Yd.mvI rfl) ?_
              refine DJ.yd 4 rfl (by kernel_rfl) (by kernel_rfl) (by kernel_rfl) rfl rfl (Yd.sub rfl rfl (by unfold I64; omega)) ?_
              refine DJ.yd 5 rfl (by kernel_rfl) (by kernel_rfl) (by kernel_rfl) rfl rfl (Yd.mvS rfl) ?_
              refine DJ.yd 6 rfl (by kernel_rfl) (by kernel_rfl) (by kernel_rfl) rfl rfl (Yd.mvI rfl) ?_
              refine DJ.yd 7 rfl (by kernel_rfl) (by kernel_rfl) (by kernel_rfl) rfl rfl (Yd.sub rfl rfl (by unfold I64; omega)) ?_
              refine DJ.idxR 0 rfl 8 rfl (by kernel_rfl) (by kernel_rfl) (by kernel_rfl) rfl rfl rfl rfl (by omega) (by first | rfl | omega | (simp; done) | (simp; omega) | (simp [upN_len]; omega) | (simp [idxBy_len]; omega) | (simp [marks_len]; omega) | (simp [upN_len]; done) | (simp [idxBy_len]; done) | (simp [marks_len]; done) | (simp at *; omega)) (by first | rfl | omega | (simp; done) | (simp; omega) | (simp [upN_len]; omega) | (simp [idxBy_len]; omega) | (simp [marks_len]; omega) | (simp [upN_len]; done) | (simp [idxBy_len]; done) | (simp [marks_len]; done) | (simp at *; omega)) (fun ib121 ia121 => ?_)
              refine DJ.yd 10 rfl (by kernel_rfl) (by kernel_rfl) (by kernel_rfl) rfl rfl (Yd.mvS rfl) ?_
              refine DJ.yd 11 rfl (by kernel_rfl) (by kernel_rfl) (by kernel_rfl) rfl rfl (Yd.mvI rfl) ?_
              refine DJ.idxR 0 rfl 12 rfl (by kernel_rfl) (by kernel_rfl) (by kernel_rfl) rfl rfl rfl rfl (by omega) (by first | rfl | omega | (simp; done) | (simp; omega) | (simp [upN_len]; omega) | (simp [idxBy_len]; omega) | (simp [marks_len]; omega) | (simp [upN_len]; done) | (simp [idxBy_len]; done) | (simp [marks_len]; done) | (simp at *; omega)) (by first | rfl | omega | (simp; done) | (simp; omega) | (simp [upN_len]; omega) | (simp [idxBy_len]; omega) | (simp [marks_len]; omega) | (simp [upN_len]; done) | (simp [idxBy_len]; done) | (simp [marks_len]; done) | (simp at *; omega)) (fun ib125 ia125 => ?_)
              refine DJ.two (i := 9) (j := 13) (by kernel_rfl) ?_ ?_
              · refine DO.ldR rfl rfl rfl 0 0 (fun u => vI u) (fun _ => rfl) rfl ia121 rfl rfl (by first | rfl | omega | (simp; done) | (simp; omega) | (simp [upN_len]; omega) | (simp [idxBy_len]; omega) | (simp [marks_len]; omega) | (simp [upN_len]; done) | (simp [idxBy_len]; done) | (simp [marks_len]; done) | (simp at *; omega)) (fun u122 hu122 => ?_)
                try simp only [Int.toNat_natCast] at hu122
                refine DJ.one (i := 13) (by kernel_rfl) ?_
                refine DO.ldR rfl rfl rfl 0 0 (fun u => vI u) (fun _ => rfl) rfl ia125 rfl rfl (by first | rfl | omega | (simp; done) | (simp; omega) | (simp [upN_len]; omega) | (simp [idxBy_len]; omega) | (simp [marks_len]; omega) | (simp [upN_len]; done) | (simp [idxBy_len]; done) | (simp [marks_len]; done) | (simp at *; omega)) (fun u126 hu126 => ?_)
                try simp only [Int.toNat_natCast] at hu126
                refine DJ.idxR 0 rfl 14 rfl (by kernel_rfl) (by kernel_rfl) (by kernel_rfl) rfl rfl rfl rfl (by omega) (by first | rfl | omega | (simp; done) | (simp; omega) | (simp [upN_len]; omega) | (simp [idxBy_len]; omega) | (simp [marks_len]; omega) | (simp [upN_len]; done) | (simp [idxBy_len]; done) | (simp [marks_len]; done) | (simp at *; omega)) (by first | rfl | omega | (simp; done) | (simp; omega) | (simp [upN_len]; omega) | (simp [idxBy_len]; omega) | (simp [marks_len]; omega) | (simp [upN_len]; done) | (simp [idxBy_len]; done) | (simp [marks_len]; done) | (simp at *; omega)) (fun ib127 ia127 => ?_)
                refine DJ.one (i := 15) (by kernel_rfl) ?_
                refine DO.op rfl rfl rfl (fun k0 hk0 dk0 => OpR.st1 (enc := encI) (e1 := fun u => vI u) 0 (fun _ => rfl) (fun _ => rfl) (fun _ => rfl) rfl ia127 rfl rfl rfl (by first | rfl | omega | (simp; done) | (simp; omega) | (simp [upN_len]; omega) | (simp [idxBy_len]; omega) | (simp [marks_len]; omega) | (simp [upN_len]; done) | (simp [idxBy_len]; done) | (simp [marks_len]; done) | (simp at *; omega))) ?_
                rintro _ _ ⟨rfl, rfl⟩
                refine DJ.norm [] [_] rfl rfl ?_
                refine DJ.idxR 0 rfl 16 rfl (by kernel_rfl) (by kernel_rfl) (by kernel_rfl) rfl rfl rfl rfl (by omega) (by first | rfl | omega | (simp; done) | (simp; omega) | (simp [upN_len]; omega) | (simp [idxBy_len]; omega) | (simp [marks_len]; omega) | (simp [upN_len]; done) | (simp [idxBy_len]; done) | (simp [marks_len]; done) | (simp at *; omega)) (by first | rfl | omega | (simp; done) | (simp; omega) | (simp [upN_len]; omega) | (simp [idxBy_len]; omega) | (simp [marks_len]; omega) | (simp [upN_len]; done) | (simp [idxBy_len]; done) | (simp [marks_len]; done) | (simp at *; omega)) (fun ib128 ia128 => ?_)
                refine DJ.one (i := 17) (by kernel_rfl) ?_
                refine DO.op rfl rfl rfl (fun k0 hk0 dk0 => OpR.st1 (enc := encI) (e1 := fun u => vI u) 0 (fun _ => rfl) (fun _ => rfl) (fun _ => rfl) rfl ia128 rfl rfl rfl (by first | rfl | omega | (simp; done) | (simp; omega) | (simp [upN_len]; omega) | (simp [idxBy_len]; omega) | (simp [marks_len]; omega) | (simp [upN_len]; done) | (simp [idxBy_len]; done) | (simp [marks_len]; done) | (simp at *; omega))) ?_
                rintro _ _ ⟨rfl, rfl⟩
                refine DJ.norm [] [_] rfl rfl ?_
                refine DJ.done (by kernel_rfl) ?_
                obtain ⟨t, ht⟩ : ∃ t : Nat, (z - P.length).toNat = t + 1 := ⟨(z - P.length).toNat - 1, by omega⟩
                obtain ⟨v, hv⟩ := someC (l := U) (j := t) (by omega)
                rw [ht, mid_prev hv (by omega)] at hu122
                rw [ht, mid_at (by omega) (by omega)] at hu126
                cases hu122
                cases hu126
                refine CJ.norm [LR encI 3 1 (some ⟨g, 0, none⟩) c (amid P U Q w (z - 1 - P.length).toNat)] ?_ ?_
                · refine congrArg (fun z => [LR encI 3 1 (some ⟨g, 0, none⟩) c z]) ?_
                  rw [ht, show (z - 1 - P.length).toNat = t by omega]
                  first
                    | exact mid_down hv (by omega) (by omega)
                    | (rw [List.set_comm _ _ (by omega)]; exact mid_down hv (by omega) (by omega))
                refine CJ.region ?_
                refine LJ.yd rfl (Yd.mvI rfl) ?_
                refine LJ.yd rfl (Yd.sub rfl rfl (by unfold I64; omega)) ?_
                refine LJ.yd rfl (Yd.asI rfl) ?_
                refine LJ.nil ?_
                refine ⟨_, ?_, ⟨rfl, rfl, rfl, rfl, rfl, rfl, trivial⟩, ⟨rfl, trivial⟩, Ent.refl _, ?_⟩
                · first | assumption | omega | (simp_all; done) | (simp_all; omega)
                · first | omega | (dsimp only; omega) | (simp only []; omega)
              · refine DO.ldR rfl rfl rfl 0 0 (fun u => vI u) (fun _ => rfl) rfl ia125 rfl rfl (by first | rfl | omega | (simp; done) | (simp; omega) | (simp [upN_len]; omega) | (simp [idxBy_len]; omega) | (simp [marks_len]; omega) | (simp [upN_len]; done) | (simp [idxBy_len]; done) | (simp [marks_len]; done) | (simp at *; omega)) (fun u126 hu126 => ?_)
                try simp only [Int.toNat_natCast] at hu126
                refine DJ.one (i := 9) (by kernel_rfl) ?_
                refine DO.ldR rfl rfl rfl 0 0 (fun u => vI u) (fun _ => rfl) rfl ia121 rfl rfl (by first | rfl | omega | (simp; done) | (simp; omega) | (simp [upN_len]; omega) | (simp [idxBy_len]; omega) | (simp [marks_len]; omega) | (simp [upN_len]; done) | (simp [idxBy_len]; done) | (simp [marks_len]; done) | (simp at *; omega)) (fun u122 hu122 => ?_)
                try simp only [Int.toNat_natCast] at hu122
                refine DJ.idxR 0 rfl 14 rfl (by kernel_rfl) (by kernel_rfl) (by kernel_rfl) rfl rfl rfl rfl (by omega) (by first | rfl | omega | (simp; done) | (simp; omega) | (simp [upN_len]; omega) | (simp [idxBy_len]; omega) | (simp [marks_len]; omega) | (simp [upN_len]; done) | (simp [idxBy_len]; done) | (simp [marks_len]; done) | (simp at *; omega)) (by first | rfl | omega | (simp; done) | (simp; omega) | (simp [upN_len]; omega) | (simp [idxBy_len]; omega) | (simp [marks_len]; omega) | (simp [upN_len]; done) | (simp [idxBy_len]; done) | (simp [marks_len]; done) | (simp at *; omega)) (fun ib127 ia127 => ?_)
                refine DJ.one (i := 15) (by kernel_rfl) ?_
                refine DO.op rfl rfl rfl (fun k0 hk0 dk0 => OpR.st1 (enc := encI) (e1 := fun u => vI u) 0 (fun _ => rfl) (fun _ => rfl) (fun _ => rfl) rfl ia127 rfl rfl rfl (by first | rfl | omega | (simp; done) | (simp; omega) | (simp [upN_len]; omega) | (simp [idxBy_len]; omega) | (simp [marks_len]; omega) | (simp [upN_len]; done) | (simp [idxBy_len]; done) | (simp [marks_len]; done) | (simp at *; omega))) ?_
                rintro _ _ ⟨rfl, rfl⟩
                refine DJ.norm [] [_] rfl rfl ?_
                refine DJ.idxR 0 rfl 16 rfl (by kernel_rfl) (by kernel_rfl) (by kernel_rfl) rfl rfl rfl rfl (by omega) (by first | rfl | omega | (simp; done) | (simp; omega) | (simp [upN_len]; omega) | (simp [idxBy_len]; omega) | (simp [marks_len]; omega) | (simp [upN_len]; done) | (simp [idxBy_len]; done) | (simp [marks_len]; done) | (simp at *; omega)) (by first | rfl | omega | (simp; done) | (simp; omega) | (simp [upN_len]; omega) | (simp [idxBy_len]; omega) | (simp [marks_len]; omega) | (simp [upN_len]; done) | (simp [idxBy_len]; done) | (simp [marks_len]; done) | (simp at *; omega)) (fun ib128 ia128 => ?_)
                refine DJ.one (i := 17) (by kernel_rfl) ?_
                refine DO.op rfl rfl rfl (fun k0 hk0 dk0 => OpR.st1 (enc := encI) (e1 := fun u => vI u) 0 (fun _ => rfl) (fun _ => rfl) (fun _ => rfl) rfl ia128 rfl rfl rfl (by first | rfl | omega | (simp; done) | (simp; omega) | (simp [upN_len]; omega) | (simp [idxBy_len]; omega) | (simp [marks_len]; omega) | (simp [upN_len]; done) | (simp [idxBy_len]; done) | (simp [marks_len]; done) | (simp at *; omega))) ?_
                rintro _ _ ⟨rfl, rfl⟩
                refine DJ.norm [] [_] rfl rfl ?_
                refine DJ.done (by kernel_rfl) ?_
                obtain ⟨t, ht⟩ : ∃ t : Nat, (z - P.length).toNat = t + 1 := ⟨(z - P.length).toNat - 1, by omega⟩
                obtain ⟨v, hv⟩ := someC (l := U) (j := t) (by omega)
                rw [ht, mid_prev hv (by omega)] at hu122
                rw [ht, mid_at (by omega) (by omega)] at hu126
                cases hu122
                cases hu126
                refine CJ.norm [LR encI 3 1 (some ⟨g, 0, none⟩) c (amid P U Q w (z - 1 - P.length).toNat)] ?_ ?_
                · refine congrArg (fun z => [LR encI 3 1 (some ⟨g, 0, none⟩) c z]) ?_
                  rw [ht, show (z - 1 - P.length).toNat = t by omega]
                  first
                    | exact mid_down hv (by omega) (by omega)
                    | (rw [List.set_comm _ _ (by omega)]; exact mid_down hv (by omega) (by omega))
                refine CJ.region ?_
                refine LJ.yd rfl (Yd.mvI rfl) ?_
                refine LJ.yd rfl (Yd.sub rfl rfl (by unfold I64; omega)) ?_
                refine LJ.yd rfl (Yd.asI rfl) ?_
                refine LJ.nil ?_
                refine ⟨_, ?_, ⟨rfl, rfl, rfl, rfl, rfl, rfl, trivial⟩, ⟨rfl, trivial⟩, Ent.refl _, ?_⟩
                · first | assumption | omega | (simp_all; done) | (simp_all; omega)
                · first | omega | (dsimp only; omega) | (simp only []; omega)
            · refine LJ.nil ?_
              refine CJ.condF rfl ?_
              refine CJ.exit ?_
              refine CJ.ret ?_
              have ez : (z - P.length).toNat = (i - P.length).toNat := by omega
              have ej : j = i := by omega
              rw [ej] at hjv
              rw [ez]
              exact Fin.R [_] Res.none ⟨rfl, U.take (i - P.length).toNat ++ w :: U.drop (i - P.length).toNat, by rw [List.append_assoc, List.cons_append], (perm_ins U w _).trans (List.perm_append_comm (l₁ := [w]) (l₂ := U)), pw_ins hR hU hiv hjv⟩ (Ent.refl _)
    · exfalso; omega
end Go.Proofs.Ytbgalcjkmgdaiaa
