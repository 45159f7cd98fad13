/-
  Merging: contract of symMerge of Go's stable sort.
-/
import Derived.Test.YtbgalcjkmgdaiaaS2
namespace Go.Proofs.Ytbgalcjkmgdaiaa
open Go
set_option maxRecDepth 20000
set_option maxHeartbeats 1000000

theorem cross {R : Int → Int → Prop} (hR : ∀ x y z, R x y → R y z → R x z) {X Y : List Int} {i j : Nat} (hX : X.Pairwise R) (hY : Y.Pairwise R) (h : i = 0 ∨ Y.length ≤ j ∨ ∃ u v, X[i - 1]? = some u ∧ Y[j]? = some v ∧ R u v) : ∀ u ∈ X.take i, ∀ v ∈ Y.drop j, R u v := by
  intro u hu v hv
  rcases h with rfl | h | ⟨a, b, ha, hb, hab⟩
  · cases hu
  · rw [List.drop_of_length_le h] at hv; cases hv
  · by_cases h0 : i = 0
    · subst h0; cases hu
    have e := takeC ha
    rw [show i - 1 + 1 = i by omega] at e
    have hp : (X.take i).Pairwise R := hX.sublist (List.take_sublist _ _)
    have hq : (Y.drop j).Pairwise R := hY.sublist (List.drop_sublist _ _)
    rw [e, List.pairwise_append] at hp
    rw [e, List.mem_append, List.mem_singleton] at hu
    rw [dropC hb, List.pairwise_cons] at hq
    rw [dropC hb] at hv
    have h1 : R u b := by
      rcases hu with hu | rfl
      · exact hR _ _ _ (hp.2.2 u hu a (by simp)) hab
      · exact hab
    rcases List.mem_cons.1 hv with rfl | hv
    · exact h1
    · exact hR _ _ _ h1 (hq.1 v hv)
theorem halves_perm {U V W Z : List Int} {i j : Nat} (h1 : W.Perm (U.take i ++ V.take j)) (h2 : Z.Perm (U.drop i ++ V.drop j)) : (W ++ Z).Perm (U ++ V) := by
  refine (h1.append h2).trans ?_
  conv => rhs; rw [← List.take_append_drop i U, ← List.take_append_drop j V]
  rw [List.append_assoc, List.append_assoc]
  refine List.Perm.append_left _ ?_
  rw [← List.append_assoc, ← List.append_assoc]
  exact List.Perm.append_right _ List.perm_append_comm
theorem halves_pw {R : Int → Int → Prop} {U V W Z : List Int} {i j : Nat} (hU : U.Pairwise R) (hV : V.Pairwise R) (h1 : W.Perm (U.take i ++ V.take j)) (h2 : Z.Perm (U.drop i ++ V.drop j)) (hW : W.Pairwise R) (hZ : Z.Pairwise R)
    (c1 : ∀ u ∈ U.take i, ∀ v ∈ V.drop j, R u v) (c2 : ∀ v ∈ V.take j, ∀ u ∈ U.drop i, R v u) : (W ++ Z).Pairwise R := by
  rw [← List.take_append_drop i U, List.pairwise_append] at hU
  rw [← List.take_append_drop j V, List.pairwise_append] at hV
  rw [List.pairwise_append]
  refine ⟨hW, hZ, fun x hx y hy => ?_⟩
  rcases List.mem_append.1 (h1.mem_iff.1 hx) with hx | hx <;> rcases List.mem_append.1 (h2.mem_iff.1 hy) with hy | hy
  · exact hU.2.2 x hx y hy
  · exact c1 x hx y hy
  · exact c2 x hx y hy
  · exact hV.2.2 x hx y hy
/-- symMerge is right for at most N numbers -/
def SymOk (F : FuncId) (caps : List Value) (D : Int → Prop) (lt : Int → Int → Bool) (R : Int → Int → Prop) (g c ln N : Nat) : Prop :=
  ∀ (B : Amb) (P U V Q l : List Int) (a m b : Int), Cmp B F caps D lt → U.length + V.length ≤ N → l = P ++ (U ++ (V ++ Q)) → ln = l.length → 0 < U.length → 0 < V.length → a = P.length → m = P.length + U.length → b = P.length + U.length + V.length →
    (∀ x ∈ U, D x) → (∀ x ∈ V, D x) → U.Pairwise R → V.Pairwise R → (∀ u ∈ U, ∀ v ∈ V, (lt v u = true → R v u) ∧ (lt v u = false → R u v)) →
    Ctr Try.prog 78 #[.slice (some ⟨g, 0, none⟩) ln c, vI a, vI m, vI b, .func (.func F) #[] caps.toArray] B [LR encI 3 1 (some ⟨g, 0, none⟩) c l] (fun v gs => v = .tuple #[] ∧ ∃ W, gs = [LR encI 3 1 (some ⟨g, 0, none⟩) c (P ++ (W ++ Q))] ∧ W.Perm (U ++ V) ∧ W.Pairwise R)
theorem symN_ok {A : Amb} {F : FuncId} {caps : List Value} {D : Int → Prop} {lt : Int → Int → Bool} {R : Int → Int → Prop} {g c ln N : Nat} {P U V Q l : List Int} {a m b : Int} [TyFn Try.prog F] (ih : SymOk F caps D lt R g c ln N) (hc : Cmp A F caps D lt) (hR : ∀ x y z, R x y → R y z → R x z)
    (hN : U.length + V.length ≤ N + 1) (hl : l = P ++ (U ++ (V ++ Q))) (hln : ln = l.length) (h1 : ln ≤ 100000) (h2 : 2 ≤ U.length) (h3 : 2 ≤ V.length) (ha : a = P.length) (hm : m = P.length + U.length) (hb : b = P.length + U.length + V.length) (hDu : ∀ x ∈ U, D x) (hDv : ∀ x ∈ V, D x) (hU : U.Pairwise R) (hV : V.Pairwise R) (hlt : ∀ u ∈ U, ∀ v ∈ V, (lt v u = true → R v u) ∧ (lt v u = false → R u v)) :
    Ctr Try.prog 78 #[.slice (some ⟨g, 0, none⟩) ln c, vI a, vI m, vI b, .func (.func F) #[] caps.toArray] A [LR encI 3 1 (some ⟨g, 0, none⟩) c l] (fun v gs => v = .tuple #[] ∧ ∃ W, gs = [LR encI 3 1 (some ⟨g, 0, none⟩) c (P ++ (W ++ Q))] ∧ W.Perm (U ++ V) ∧ W.Pairwise R) := by
  subst ha hm hb
  have hll : ln = P.length + U.length + V.length + Q.length := by rw [hln, hl]; simp; omega
  have hgu : ∀ i : Nat, P.length ≤ i → i < P.length + U.length → l[i]? = U[i - P.length]? := fun i h1 h2 => by rw [hl]; exact get_mid h1 h2
  have hgv : ∀ i : Nat, P.length + U.length ≤ i → i < P.length + U.length + V.length → l[i]? = V[i - P.length - U.length]? := fun i h1 h2 => by
    have := get_mid (P := P ++ U) (V := V) (Q := Q) (i := i) (by simp; omega) (by simp; omega)
    rw [hl, ← List.append_assoc, this]; congr 1; simp; omega
  refine Ctr.body (args := [_, _, _, _, _]) Try.func78 rfl Try.ntmps78 Try.results78 (by simp) ?_
  refine CJ.seq ?_
  refine CJ.seq ?_
  refine CJ.region ?_
  refine LJ.yd rfl (Yd.mvI rfl) ?_
  refine LJ.yd rfl (Yd.mvI rfl) ?_
  refine LJ.yd rfl (Yd.sub rfl rfl (by unfold I64; omega)) ?_
  refine LJ.splitD rfl (Yd.eql rfl rfl) (fun h28 => ?_) (fun h28 => ?_)
  · exfalso; omega
  · refine LJ.nil ?_
    refine CJ.condF rfl ?_
    refine CJ.skip ?_
    refine CJ.seq ?_
    refine CJ.seq ?_
    refine CJ.region ?_
    refine LJ.yd rfl (Yd.mvI rfl) ?_
    refine LJ.yd rfl (Yd.mvI rfl) ?_
    refine LJ.yd rfl (Yd.sub rfl rfl (by unfold I64; omega)) ?_
    refine LJ.splitD rfl (Yd.eql rfl rfl) (fun h80 => ?_) (fun h80 => ?_)
    · exfalso; omega
    · refine LJ.nil ?_
      refine CJ.condF rfl ?_
      refine CJ.skip ?_
      refine CJ.seq ?_
      refine CJ.region ?_
      refine LJ.yd rfl (Yd.mvI rfl) ?_
      refine LJ.yd rfl (Yd.mvI rfl) ?_
      refine LJ.yd rfl (Yd.add rfl rfl (by unfold I64; omega)) ?_
      refine LJ.yd rfl (Yd.toU rfl (by omega) (by omega)) ?_
      refine LJ.yd rfl (Yd.half rfl rfl (by omega)) ?_
      refine LJ.yd rfl (Yd.ofU rfl (by omega) (by omega)) ?_
      refine LJ.yd rfl (Yd.asI rfl) ?_
      refine LJ.nil ?_
      refine CJ.seq ?_
      generalize hmid : ((P.length : Int) + (P.length + U.length + V.length)) / 2 = mid
      refine CJ.region ?_
      refine LJ.yd rfl (Yd.mvI rfl) ?_
      refine LJ.yd rfl (Yd.mvI rfl) ?_
      refine LJ.yd rfl (Yd.add rfl rfl (by unfold I64; omega)) ?_
      refine LJ.yd rfl (Yd.asI rfl) ?_
      refine LJ.nil ?_
      refine CJ.seq ?_
      refine CJ.region ?_
      refine LJ.yd rfl (Yd.asI rfl) ?_
      refine LJ.yd rfl (Yd.asI rfl) ?_
      refine LJ.nil ?_
      refine CJ.seqK [0, 1, 2, 3, 4, 18, 19] (Int × Int) (fun ⟨x, y⟩ => (x = mid + (P.length + U.length) - (P.length + U.length + V.length) ∧ y = mid ∧ mid < P.length + U.length) ∨ (x = P.length ∧ y = P.length + U.length ∧ P.length + U.length ≤ mid)) (fun ⟨x, y⟩ => [(20, vI x), (21, vI y)]) ?_ ?_
      · refine CJ.seq ?_
        refine CJ.region ?_
        refine LJ.yd rfl (Yd.mvI rfl) ?_
        refine LJ.yd rfl (Yd.mvI rfl) ?_
        refine LJ.splitD rfl (Yd.gtr rfl rfl) (fun h140 => ?_) (fun h140 => ?_)
        · refine LJ.nil ?_
          refine CJ.condT rfl ?_
          refine CJ.seq ?_
          refine CJ.region ?_
          refine LJ.yd rfl (Yd.mvI rfl) ?_
          refine LJ.yd rfl (Yd.mvI rfl) ?_
          refine LJ.yd rfl (Yd.sub rfl rfl (by unfold I64; omega)) ?_
          refine LJ.yd rfl (Yd.asI rfl) ?_
          refine LJ.nil ?_
          refine CJ.region ?_
          refine LJ.yd rfl (Yd.mvI rfl) ?_
          refine LJ.yd rfl (Yd.asI rfl) ?_
          refine LJ.nil ?_
          refine ⟨(mid + ((P.length : Int) + U.length) - ((P.length : Int) + U.length + V.length), mid), ?_, ?_, ?_, Ent.refl _⟩
          · dsimp only; omega
          · exact ⟨rfl, rfl, rfl, rfl, rfl, rfl, rfl, trivial⟩
          · exact ⟨rfl, rfl, trivial⟩
        · refine LJ.nil ?_
          refine CJ.condF rfl ?_
          refine CJ.seq ?_
          refine CJ.region ?_
          refine LJ.yd rfl (Yd.mvI rfl) ?_
          refine LJ.yd rfl (Yd.asI rfl) ?_
          refine LJ.nil ?_
          refine CJ.region ?_
          refine LJ.yd rfl (Yd.mvI rfl) ?_
          refine LJ.yd rfl (Yd.asI rfl) ?_
          refine LJ.nil ?_
          refine ⟨((P.length : Int), (P.length : Int) + U.length), ?_, ?_, ?_, Ent.refl _⟩
          · dsimp only; omega
          · exact ⟨rfl, rfl, rfl, rfl, rfl, rfl, rfl, trivial⟩
          · exact ⟨rfl, rfl, trivial⟩
      · rintro ⟨x, y⟩ σ hxy
        refine CJ.seq ?_
        refine CJ.region ?_
        refine LJ.yd rfl (Yd.mvI rfl) ?_
        refine LJ.yd rfl (Yd.sub rfl rfl (by unfold I64; omega)) ?_
        refine LJ.yd rfl (Yd.asI rfl) ?_
        refine LJ.nil ?_
        refine CJ.seq ?_
        refine CJ.block ?_
        refine CJ.loopK [0, 1, 2, 3, 4, 18, 19, 22] (Int × Int) (fun ⟨s, r⟩ => x ≤ s ∧ s ≤ r ∧ r ≤ y ∧ (s = x ∨ ∃ u v, U[(s - P.length).toNat - 1]? = some u ∧ V[(mid - s).toNat]? = some v ∧ R u v) ∧ (r = y ∨ ∃ v u, V[(mid - r).toNat - 1]? = some v ∧ U[(r - P.length).toNat]? = some u ∧ R v u)) (fun ⟨s, r⟩ => [(20, vI s), (21, vI r)]) (fun ⟨s, r⟩ => (r - s).toNat) (x, y) ?_ ⟨rfl, rfl, trivial⟩ ?_
        · exact ⟨by omega, by omega, by omega, .inl rfl, .inl rfl⟩
        · rintro ⟨s, r⟩ σ ⟨hs0, hsr, hr1, hsv, hrv⟩
          refine CJ.seq ?_
          refine CJ.seq ?_
          refine CJ.region ?_
          refine LJ.yd rfl (Yd.mvI rfl) ?_
          refine LJ.yd rfl (Yd.mvI rfl) ?_
          refine LJ.splitD rfl (Yd.lss rfl rfl) (fun h151 => ?_) (fun h151 => ?_)
          · refine LJ.nil ?_
            refine CJ.condT rfl ?_
            refine CJ.skip ?_
            refine CJ.block ?_
            refine CJ.seq ?_
            refine CJ.region ?_
            refine LJ.yd rfl (Yd.mvI rfl) ?_
            refine LJ.yd rfl (Yd.mvI rfl) ?_
            refine LJ.yd rfl (Yd.add rfl rfl (by unfold I64; omega)) ?_
            refine LJ.yd rfl (Yd.toU rfl (by omega) (by omega)) ?_
            refine LJ.yd rfl (Yd.half rfl rfl (by omega)) ?_
            refine LJ.yd rfl (Yd.ofU rfl (by omega) (by omega)) ?_
            refine LJ.yd rfl (Yd.asI rfl) ?_
            refine LJ.nil ?_
            refine CJ.seq ?_
            refine CJ.regionD [0] [] (by kernel_rfl) rfl ?_
            refine DJ.norm [_] [] rfl rfl ?_
            refine DJ.yd 0 rfl (by kernel_rfl) (by kernel_rfl) (by kernel_rfl) rfl rfl (Yd.mvF rfl) ?_
            refine DJ.yd 1 rfl (by kernel_rfl) (by kernel_rfl) (by kernel_rfl) rfl rfl (Yd.mvS rfl) ?_
            refine DJ.yd 2 rfl (by kernel_rfl) (by kernel_rfl) (by kernel_rfl) rfl rfl (Yd.mvI rfl) ?_
            refine DJ.yd 3 rfl (by kernel_rfl) (by kernel_rfl) (by kernel_rfl) rfl rfl (Yd.mvI rfl) ?_
            refine DJ.yd 4 rfl (by kernel_rfl) (by kernel_rfl) (by kernel_rfl) rfl rfl (Yd.sub rfl rfl (by unfold I64; omega)) ?_
            refine DJ.idxF 0 rfl 5 rfl (by kernel_rfl) (by kernel_rfl) (by kernel_rfl) rfl rfl rfl rfl (by omega) (by first | rfl | omega | (simp; done) | (simp; omega) | (simp [upN_len]; omega) | (simp [idxBy_len]; omega) | (simp [marks_len]; omega) | (simp [upN_len]; done) | (simp [idxBy_len]; done) | (simp [marks_len]; done) | (simp at *; omega)) (by first | rfl | omega | (simp; done) | (simp; omega) | (simp [upN_len]; omega) | (simp [idxBy_len]; omega) | (simp [marks_len]; omega) | (simp [upN_len]; done) | (simp [idxBy_len]; done) | (simp [marks_len]; done) | (simp at *; omega)) (fun ib163 ia163 => ?_)
            refine DJ.ldF 6 rfl (by kernel_rfl) (by kernel_rfl) (by kernel_rfl) rfl rfl 0 0 (fun u => vI u) (fun _ => rfl) rfl ia163 rfl rfl (by first | rfl | omega | (simp; done) | (simp; omega) | (simp [upN_len]; omega) | (simp [idxBy_len]; omega) | (simp [marks_len]; omega) | (simp [upN_len]; done) | (simp [idxBy_len]; done) | (simp [marks_len]; done) | (simp at *; omega)) (fun u164 hu164 => ?_)
            try simp only [Int.toNat_natCast] at hu164
            rw [hgv _ (by omega) (by omega)] at hu164
            have hD164 := hDv u164 (List.mem_of_getElem? hu164)
            refine DJ.yd 7 rfl (by kernel_rfl) (by kernel_rfl) (by kernel_rfl) rfl rfl (Yd.mvS rfl) ?_
            refine DJ.yd 8 rfl (by kernel_rfl) (by kernel_rfl) (by kernel_rfl) rfl rfl (Yd.mvI rfl) ?_
            refine DJ.idxF 0 rfl 9 rfl (by kernel_rfl) (by kernel_rfl) (by kernel_rfl) rfl rfl rfl rfl (by omega) (by first | rfl | omega | (simp; done) | (simp; omega) | (simp [upN_len]; omega) | (simp [idxBy_len]; omega) | (simp [marks_len]; omega) | (simp [upN_len]; done) | (simp [idxBy_len]; done) | (simp [marks_len]; done) | (simp at *; omega)) (by first | rfl | omega | (simp; done) | (simp; omega) | (simp [upN_len]; omega) | (simp [idxBy_len]; omega) | (simp [marks_len]; omega) | (simp [upN_len]; done) | (simp [idxBy_len]; done) | (simp [marks_len]; done) | (simp at *; omega)) (fun ib167 ia167 => ?_)
            refine DJ.ldF 10 rfl (by kernel_rfl) (by kernel_rfl) (by kernel_rfl) rfl rfl 0 0 (fun u => vI u) (fun _ => rfl) rfl ia167 rfl rfl (by first | rfl | omega | (simp; done) | (simp; omega) | (simp [upN_len]; omega) | (simp [idxBy_len]; omega) | (simp [marks_len]; omega) | (simp [upN_len]; done) | (simp [idxBy_len]; done) | (simp [marks_len]; done) | (simp at *; omega)) (fun u168 hu168 => ?_)
            try simp only [Int.toNat_natCast] at hu168
            rw [hgu _ (by omega) (by omega)] at hu168
            have hD168 := hDu u168 (List.mem_of_getElem? hu168)
            refine DJ.one (i := 11) (by kernel_rfl) ?_
            refine DO.callD0 rfl rfl rfl rfl (fun k0 hk0 dk0 k hk dk => hc ((A.ext k0).ext k) inferInstance _ _ hD164 hD168) ?_
            rintro _ _ ⟨c169, rfl, rfl, hc169⟩
            refine DJ.norm [_] [] rfl rfl ?_
            refine DJ.splitD 12 rfl (by kernel_rfl) (by kernel_rfl) (by kernel_rfl) rfl rfl (Yd.lss rfl rfl) (fun h170 => ?_) (fun h170 => ?_)
            · refine DJ.yd 13 rfl (by kernel_rfl) (by kernel_rfl) (by kernel_rfl) rfl rfl (Yd.not rfl) ?_
              refine DJ.done (by kernel_rfl) ?_
              refine CJ.condF rfl ?_
              refine CJ.region ?_
              refine LJ.yd rfl (Yd.mvI rfl) ?_
              refine LJ.yd rfl (Yd.asI rfl) ?_
              refine LJ.nil ?_
              refine ⟨(_, _), ?_, ⟨rfl, rfl, rfl, rfl, rfl, rfl, rfl, rfl, trivial⟩, ⟨rfl, rfl, trivial⟩, Ent.refl _, ?_⟩
              · first
                  | exact ⟨by omega, by omega, by omega, .inr ⟨u168, u164, by rw [show ((s + r) / 2 + 1 - P.length).toNat - 1 = ((s + r) / 2).toNat - P.length by omega]; exact hu168, by rw [show (mid - ((s + r) / 2 + 1)).toNat = (mid + (P.length + U.length) - 1 - (s + r) / 2).toNat - P.length - U.length by omega]; exact hu164, (hlt u168 (List.mem_of_getElem? hu168) u164 (List.mem_of_getElem? hu164)).2 (by cases h : lt u164 u168 with | false => rfl | true => exact absurd (hc169.2 h) h170)⟩, hrv⟩
                  | exact ⟨by omega, by omega, by omega, hsv, .inr ⟨u164, u168, by rw [show (mid - (s + r) / 2).toNat - 1 = (mid + (P.length + U.length) - 1 - (s + r) / 2).toNat - P.length - U.length by omega]; exact hu164, by rw [show ((s + r) / 2 - P.length).toNat = ((s + r) / 2).toNat - P.length by omega]; exact hu168, (hlt u168 (List.mem_of_getElem? hu168) u164 (List.mem_of_getElem? hu164)).1 (hc169.1 h170)⟩⟩
              · first | omega | (dsimp only; omega) | (simp only []; omega)
            · refine DJ.yd 13 rfl (by kernel_rfl) (by kernel_rfl) (by kernel_rfl) rfl rfl (Yd.not rfl) ?_
              refine DJ.done (by kernel_rfl) ?_
              refine CJ.condT rfl ?_
              refine CJ.region ?_
              refine LJ.yd rfl (Yd.mvI rfl) ?_
              refine LJ.yd rfl (Yd.add rfl rfl (by unfold I64; omega)) ?_
              refine LJ.yd rfl (Yd.asI rfl) ?_
              refine LJ.nil ?_
              refine ⟨(_, _), ?_, ⟨rfl, rfl, rfl, rfl, rfl, rfl, rfl, rfl, trivial⟩, ⟨rfl, rfl, trivial⟩, Ent.refl _, ?_⟩
              · first
                  | exact ⟨by omega, by omega, by omega, .inr ⟨u168, u164, by rw [show ((s + r) / 2 + 1 - P.length).toNat - 1 = ((s + r) / 2).toNat - P.length by omega]; exact hu168, by rw [show (mid - ((s + r) / 2 + 1)).toNat = (mid + (P.length + U.length) - 1 - (s + r) / 2).toNat - P.length - U.length by omega]; exact hu164, (hlt u168 (List.mem_of_getElem? hu168) u164 (List.mem_of_getElem? hu164)).2 (by cases h : lt u164 u168 with | false => rfl | true => exact absurd (hc169.2 h) h170)⟩, hrv⟩
                  | exact ⟨by omega, by omega, by omega, hsv, .inr ⟨u164, u168, by rw [show (mid - (s + r) / 2).toNat - 1 = (mid + (P.length + U.length) - 1 - (s + r) / 2).toNat - P.length - U.length by omega]; exact hu164, by rw [show ((s + r) / 2 - P.length).toNat = ((s + r) / 2).toNat - P.length by omega]; exact hu168, (hlt u168 (List.mem_of_getElem? hu168) u164 (List.mem_of_getElem? hu164)).1 (hc169.1 h170)⟩⟩
              · first | omega | (dsimp only; omega) | (simp only []; omega)
          · refine LJ.nil ?_
            refine CJ.condF rfl ?_
            refine CJ.exit ?_
            refine CJ.seq ?_
            have hrs : r = s := by omega
            rw [hrs] at hrv
            have hsa : (P.length : Int) ≤ s ∧ s ≤ P.length + U.length ∧ s ≤ mid ∧ mid - s ≤ V.length := by omega
            obtain ⟨i, hi⟩ : ∃ i : Nat, (s - P.length).toNat = i := ⟨_, rfl⟩
            obtain ⟨j, hj⟩ : ∃ j : Nat, (mid - s).toNat = j := ⟨_, rfl⟩
            rw [hi, hj] at hsv hrv
            have hiU : i ≤ U.length := by omega
            have hjV : j ≤ V.length := by omega
            have c1 := cross hR hU hV (i := i) (j := j) (by rcases hsv with h | h; (rcases hxy with h2 | h2; exact .inr (.inl (by omega)); exact .inl (by omega)); exact .inr (.inr h))
            have c2 := cross hR hV hU (i := j) (j := i) (by rcases hrv with h | h; (rcases hxy with h2 | h2; exact .inl (by omega); exact .inr (.inl (by omega))); exact .inr (.inr h))
            obtain ⟨l2, hl2⟩ : ∃ l2, l2 = P ++ (U.take i ++ (V.take j ++ (U.drop i ++ (V.drop j ++ Q)))) := ⟨_, rfl⟩
            have hln2 : ln = l2.length := by rw [hl2]; simp; omega
            have hrot1 : l = (P ++ U.take i) ++ (U.drop i ++ (V.take j ++ (V.drop j ++ Q))) := by rw [hl, List.append_assoc, ← cut_a, ← cut_a]
            have hrot2 : l2 = (P ++ U.take i) ++ (V.take j ++ (U.drop i ++ (V.drop j ++ Q))) := by rw [hl2, List.append_assoc]
            have hno : (i = U.length ∨ j = 0) → l = l2 := fun h => by
              rw [hrot1, hrot2]
              rcases h with h | h
              · rw [List.drop_of_length_le (by omega)]; rfl
              · rw [h]; rfl
            have hp1 : (i = 0 ∨ j = 0) → (U.take i ++ V.take j).Pairwise R := fun h => by
              rcases h with h | h
              · rw [h]; exact hV.sublist (List.take_sublist _ _)
              · rw [h, List.take_zero, List.append_nil]; exact hU.sublist (List.take_sublist _ _)
            have hp2 : (i = U.length ∨ j = V.length) → (U.drop i ++ V.drop j).Pairwise R := fun h => by
              rcases h with h | h
              · rw [List.drop_of_length_le (by omega)]; exact hV.sublist (List.drop_sublist _ _)
              · rw [List.drop_of_length_le (l := V) (by omega), List.append_nil]; exact hU.sublist (List.drop_sublist _ _)
            refine CJ.region ?_
            refine LJ.yd rfl (Yd.mvI rfl) ?_
            refine LJ.yd rfl (Yd.mvI rfl) ?_
            refine LJ.yd rfl (Yd.sub rfl rfl (by unfold I64; omega)) ?_
            refine LJ.yd rfl (Yd.asI rfl) ?_
            refine LJ.nil ?_
            refine CJ.seqH [0, 1, 3, 4, 18, 20, 24] Unit (fun _ => True) (fun _ => []) (fun _ => [LR encI 3 1 (some ⟨g, 0, none⟩) c l2]) ?_ ?_
            · refine CJ.seq ?_
              refine CJ.region ?_
              refine LJ.yd rfl (Yd.mvI rfl) ?_
              refine LJ.yd rfl (Yd.mvI rfl) ?_
              refine LJ.splitD rfl (Yd.lss rfl rfl) (fun h180 => ?_) (fun h180 => ?_)
              · refine LJ.yd rfl (Yd.mvB rfl) ?_
                refine LJ.gT rfl ?_
                refine LJ.yd rfl (Yd.mvI rfl) ?_
                refine LJ.gT rfl ?_
                refine LJ.yd rfl (Yd.mvI rfl) ?_
                refine LJ.gT rfl ?_
                refine LJ.splitD rfl (Yd.lss rfl rfl) (fun h184 => ?_) (fun h184 => ?_)
                · refine LJ.yd rfl (Yd.pickTB rfl rfl) ?_
                  refine LJ.nil ?_
                  refine CJ.condT rfl ?_
                  refine CJ.region ?_
                  refine LJ.yd rfl (Yd.mvS rfl) ?_
                  refine LJ.yd rfl (Yd.mvI rfl) ?_
                  refine LJ.yd rfl (Yd.mvI rfl) ?_
                  refine LJ.yd rfl (Yd.mvI rfl) ?_
                  refine LJ.yd rfl (Yd.mvF rfl) ?_
                  refine LJ.call (pickF _ []) (pickF _ [0]) rfl (perm_pickF _ [] [0] rfl) (fun k hk dk => rotate_ok (P := P ++ U.take i) (X := U.drop i) (Y := V.take j) (Q := V.drop j ++ Q) (r := l2) hrot1 hrot2 hln (by omega) (by simp; omega) (by simp; omega) (by simp; omega) (by simp; omega) (by simp; omega)) ?_
                  rintro _ _ ⟨rfl, rfl⟩
                  refine LJ.norm [_] rfl ?_
                  refine LJ.nil ?_
                  refine ⟨(), ?_, ?_, ?_, (by first | exact Ent.refl _ | (rw [hno (by omega)]; exact Ent.refl _))⟩
                  · trivial
                  · exact ⟨rfl, rfl, rfl, rfl, rfl, rfl, rfl, trivial⟩
                  · exact trivial
                · refine LJ.yd rfl (Yd.pickTB rfl rfl) ?_
                  refine LJ.nil ?_
                  refine CJ.condF rfl ?_
                  refine CJ.skip ?_
                  refine ⟨(), ?_, ?_, ?_, (by first | exact Ent.refl _ | (rw [hno (by omega)]; exact Ent.refl _))⟩
                  · trivial
                  · exact ⟨rfl, rfl, rfl, rfl, rfl, rfl, rfl, trivial⟩
                  · exact trivial
              · refine LJ.yd rfl (Yd.mvB rfl) ?_
                refine LJ.gF rfl rfl ?_
                refine LJ.gF rfl rfl ?_
                refine LJ.gF rfl rfl ?_
                refine LJ.yd rfl (Yd.pickFB rfl rfl) ?_
                refine LJ.nil ?_
                refine CJ.condF rfl ?_
                refine CJ.skip ?_
                refine ⟨(), ?_, ?_, ?_, (by first | exact Ent.refl _ | (rw [hno (by omega)]; exact Ent.refl _))⟩
                · trivial
                · exact ⟨rfl, rfl, rfl, rfl, rfl, rfl, rfl, trivial⟩
                · exact trivial
            · rintro _ σ hp
              refine CJ.seqH [0, 3, 4, 18, 24] (List Int) (fun W => W.Perm (U.take i ++ V.take j) ∧ W.Pairwise R) (fun W => []) (fun W => [LR encI 3 1 (some ⟨g, 0, none⟩) c (P ++ (W ++ (U.drop i ++ (V.drop j ++ Q))))]) ?_ ?_
              · refine CJ.seq ?_
                refine CJ.region ?_
                refine LJ.yd rfl (Yd.mvI rfl) ?_
                refine LJ.yd rfl (Yd.mvI rfl) ?_
                refine LJ.splitD rfl (Yd.lss rfl rfl) (fun h194 => ?_) (fun h194 => ?_)
                · refine LJ.yd rfl (Yd.mvB rfl) ?_
                  refine LJ.gT rfl ?_
                  refine LJ.yd rfl (Yd.mvI rfl) ?_
                  refine LJ.gT rfl ?_
                  refine LJ.yd rfl (Yd.mvI rfl) ?_
                  refine LJ.gT rfl ?_
                  refine LJ.splitD rfl (Yd.lss rfl rfl) (fun h198 => ?_) (fun h198 => ?_)
                  · refine LJ.yd rfl (Yd.pickTB rfl rfl) ?_
                    refine LJ.nil ?_
                    refine CJ.condT rfl ?_
                    refine CJ.region ?_
                    refine LJ.yd rfl (Yd.mvS rfl) ?_
                    refine LJ.yd rfl (Yd.mvI rfl) ?_
                    refine LJ.yd rfl (Yd.mvI rfl) ?_
                    refine LJ.yd rfl (Yd.mvI rfl) ?_
                    refine LJ.yd rfl (Yd.mvF rfl) ?_
                    refine LJ.call (pickF _ []) (pickF _ [0]) rfl (perm_pickF _ [] [0] rfl) (fun k hk dk => ih _ P (U.take i) (V.take j) (U.drop i ++ (V.drop j ++ Q)) l2 _ _ _ hc.up (by simp; omega) hl2 hln2 (by simp; omega) (by simp; omega) rfl (by simp; omega) (by simp; omega) (fun x hx => hDu x (List.mem_of_mem_take hx)) (fun x hx => hDv x (List.mem_of_mem_take hx)) (hU.sublist (List.take_sublist _ _)) (hV.sublist (List.take_sublist _ _)) (fun u hu v hv => hlt u (List.mem_of_mem_take hu) v (List.mem_of_mem_take hv))) ?_
                    rintro _ _ ⟨rfl, W, rfl, hw1, hw2⟩
                    refine LJ.norm [_] rfl ?_
                    refine LJ.nil ?_
                    refine ⟨W, ?_, ?_, ?_, (by first | exact Ent.refl _ | (rw [hl2, List.append_assoc]; exact Ent.refl _))⟩
                    · first | exact ⟨hw1, hw2⟩ | exact ⟨.refl _, hp1 (by omega)⟩
                    · exact ⟨rfl, rfl, rfl, rfl, rfl, trivial⟩
                    · exact trivial
                  · refine LJ.yd rfl (Yd.pickTB rfl rfl) ?_
                    refine LJ.nil ?_
                    refine CJ.condF rfl ?_
                    refine CJ.skip ?_
                    refine ⟨(U.take i ++ V.take j), ?_, ?_, ?_, (by first | exact Ent.refl _ | (rw [hl2, List.append_assoc]; exact Ent.refl _))⟩
                    · first | exact ⟨hw1, hw2⟩ | exact ⟨.refl _, hp1 (by omega)⟩
                    · exact ⟨rfl, rfl, rfl, rfl, rfl, trivial⟩
                    · exact trivial
                · refine LJ.yd rfl (Yd.mvB rfl) ?_
                  refine LJ.gF rfl rfl ?_
                  refine LJ.gF rfl rfl ?_
                  refine LJ.gF rfl rfl ?_
                  refine LJ.yd rfl (Yd.pickFB rfl rfl) ?_
                  refine LJ.nil ?_
                  refine CJ.condF rfl ?_
                  refine CJ.skip ?_
                  refine ⟨(U.take i ++ V.take j), ?_, ?_, ?_, (by first | exact Ent.refl _ | (rw [hl2, List.append_assoc]; exact Ent.refl _))⟩
                  · first | exact ⟨hw1, hw2⟩ | exact ⟨.refl _, hp1 (by omega)⟩
                  · exact ⟨rfl, rfl, rfl, rfl, rfl, trivial⟩
                  · exact trivial
              · rintro W σ ⟨hW1, hW2⟩
                refine CJ.seq ?_
                have hWl := hW1.length_eq
                rw [List.length_append, List.length_take, List.length_take] at hWl
                refine CJ.region ?_
                refine LJ.yd rfl (Yd.mvI rfl) ?_
                refine LJ.yd rfl (Yd.mvI rfl) ?_
                refine LJ.splitD rfl (Yd.lss rfl rfl) (fun h208 => ?_) (fun h208 => ?_)
                · refine LJ.yd rfl (Yd.mvB rfl) ?_
                  refine LJ.gT rfl ?_
                  refine LJ.yd rfl (Yd.mvI rfl) ?_
                  refine LJ.gT rfl ?_
                  refine LJ.yd rfl (Yd.mvI rfl) ?_
                  refine LJ.gT rfl ?_
                  refine LJ.splitD rfl (Yd.lss rfl rfl) (fun h212 => ?_) (fun h212 => ?_)
                  · refine LJ.yd rfl (Yd.pickTB rfl rfl) ?_
                    refine LJ.nil ?_
                    refine CJ.condT rfl ?_
                    refine CJ.region ?_
                    refine LJ.yd rfl (Yd.mvS rfl) ?_
                    refine LJ.yd rfl (Yd.mvI rfl) ?_
                    refine LJ.yd rfl (Yd.mvI rfl) ?_
                    refine LJ.yd rfl (Yd.mvI rfl) ?_
                    refine LJ.yd rfl (Yd.mvF rfl) ?_
                    refine LJ.call (pickF _ []) (pickF _ [0]) rfl (perm_pickF _ [] [0] rfl) (fun k hk dk => ih _ (P ++ W) (U.drop i) (V.drop j) Q _ _ _ _ hc.up (by simp; omega) (by rw [List.append_assoc]) (by simp; omega) (by simp; omega) (by simp; omega) (by simp; omega) (by simp; omega) (by simp; omega) (fun x hx => hDu x (List.mem_of_mem_drop hx)) (fun x hx => hDv x (List.mem_of_mem_drop hx)) (hU.sublist (List.drop_sublist _ _)) (hV.sublist (List.drop_sublist _ _)) (fun u hu v hv => hlt u (List.mem_of_mem_drop hu) v (List.mem_of_mem_drop hv))) ?_
                    rintro _ _ ⟨rfl, Z, rfl, hz1, hz2⟩
                    refine LJ.norm [_] rfl ?_
                    refine LJ.nil ?_
                    refine Fin.ofRet ?_
                    first
                      | exact Fin.R [_] Res.none ⟨rfl, W ++ Z, by simp, halves_perm hW1 hz1, halves_pw hU hV hW1 hz1 hW2 hz2 c1 c2⟩ (Ent.refl _)
                      | exact Fin.R [_] Res.none ⟨rfl, W ++ (U.drop i ++ V.drop j), by simp, halves_perm hW1 (.refl _), halves_pw hU hV hW1 (.refl _) hW2 (hp2 (by omega)) c1 c2⟩ (Ent.refl _)
                  · refine LJ.yd rfl (Yd.pickTB rfl rfl) ?_
                    refine LJ.nil ?_
                    refine CJ.condF rfl ?_
                    refine CJ.skip ?_
                    refine Fin.ofRet ?_
                    first
                      | exact Fin.R [_] Res.none ⟨rfl, W ++ Z, by simp, halves_perm hW1 hz1, halves_pw hU hV hW1 hz1 hW2 hz2 c1 c2⟩ (Ent.refl _)
                      | exact Fin.R [_] Res.none ⟨rfl, W ++ (U.drop i ++ V.drop j), by simp, halves_perm hW1 (.refl _), halves_pw hU hV hW1 (.refl _) hW2 (hp2 (by omega)) c1 c2⟩ (Ent.refl _)
                · refine LJ.yd rfl (Yd.mvB rfl) ?_
                  refine LJ.gF rfl rfl ?_
                  refine LJ.gF rfl rfl ?_
                  refine LJ.gF rfl rfl ?_
                  refine LJ.yd rfl (Yd.pickFB rfl rfl) ?_
                  refine LJ.nil ?_
                  refine CJ.condF rfl ?_
                  refine CJ.skip ?_
                  refine Fin.ofRet ?_
                  first
                    | exact Fin.R [_] Res.none ⟨rfl, W ++ Z, by simp, halves_perm hW1 hz1, halves_pw hU hV hW1 hz1 hW2 hz2 c1 c2⟩ (Ent.refl _)
                    | exact Fin.R [_] Res.none ⟨rfl, W ++ (U.drop i ++ V.drop j), by simp, halves_perm hW1 (.refl _), halves_pw hU hV hW1 (.refl _) hW2 (hp2 (by omega)) c1 c2⟩ (Ent.refl _)
end Go.Proofs.Ytbgalcjkmgdaiaa
