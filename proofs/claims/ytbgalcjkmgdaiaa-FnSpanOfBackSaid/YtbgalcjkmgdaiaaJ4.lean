/-
  Contracts: orders, ends and spans of jobs, bounds.
-/
import Derived.Test.YtbgalcjkmgdaiaaM2
import Derived.Test.YtbgalcjkmgdaiaaRD
namespace Go.Proofs.Ytbgalcjkmgdaiaa
open Go
set_option maxRecDepth 20000
set_option maxHeartbeats 1000000

def OrdP (l : List Int) (n : Nat) : Prop := l.length = n ∧ l.Nodup ∧ ∀ x ∈ l, 0 ≤ x ∧ x < n
instance (l : List Int) (n : Nat) : Decidable (OrdP l n) := by unfold OrdP; infer_instance
theorem nodup_snoc {l : List Int} {k : Nat} {u : Int} (h : (l.take k).Nodup) (hu : l[k]? = some u) (hn : u ∉ l.take k) : (l.take (k + 1)).Nodup := by
  rw [takeC hu, List.nodup_append]
  exact ⟨h, by simp, fun a ha b hb e => hn (by rw [List.mem_singleton.1 hb] at e; rwa [← e])⟩
theorem nodup_not {l : List Int} {k : Nat} {u : Int} (h : l.Nodup) (hu : l[k]? = some u) : u ∉ l.take k := by
  have : (l.take (k + 1)).Nodup := h.sublist (List.take_sublist _ _)
  rw [takeC hu, List.nodup_append] at this
  intro hm
  exact this.2.2 u hm u (by simp) rfl
theorem isOrder_ok {A : Amb} {v : Value} {l : List Int} {n : Nat} (hl : RdL encI 1 A.h v l) (hn : n ≤ 1000) : Ctr Try.prog 54 #[v, vI n] A [] (Val (.bool (decide (OrdP l n)))) := by
  obtain ⟨la, lc, rfl, hlb, hl⟩ := hl.un
  refine Ctr.body (args := [_, _]) Try.func54 rfl Try.ntmps54 Try.results54 (by simp) ?_
  refine CJ.seq ?_
  refine CJ.region ?_
  refine LJ.yd rfl (Yd.asB rfl) ?_
  refine LJ.nil ?_
  refine CJ.seq ?_
  refine CJ.seq ?_
  refine CJ.region ?_
  refine LJ.yd rfl (Yd.mvS rfl) ?_
  refine LJ.yd rfl (Yd.len rfl) ?_
  refine LJ.yd rfl (Yd.mvI rfl) ?_
  refine LJ.splitN rfl (Yd.neq rfl rfl) (fun h11 => ?_) (fun h11 => ?_)
  · refine LJ.nil ?_
    refine CJ.condT rfl ?_
    refine CJ.seq ?_
    refine CJ.region ?_
    refine LJ.yd rfl (Yd.asB rfl) ?_
    refine LJ.nil ?_
    refine CJ.ret ?_
    refine Fin.V (Res.one (ResV.tmp (v := .bool false) rfl)) ?_
    refine congrArg Value.bool (Eq.symm ?_)
    first
      | (refine decide_eq_false fun h => ?_; have := h.2.2 u19 (List.mem_of_getElem? hu19); omega)
      | (refine decide_eq_false fun h => nodup_not h.2.1 hu19 ?_
         have := (hLb _ _ hu31).1 h31
         rwa [show ((u19.toNat : Nat) : Int) = u19 by omega] at this)
      | (refine decide_eq_false fun h => ?_; have := h.1; omega)
      | (rw [List.take_of_length_le (by omega)] at hnd hrg; exact decide_eq_true ⟨by omega, hnd, hrg⟩)
  · refine LJ.nil ?_
    refine CJ.condF rfl ?_
    refine CJ.skip ?_
    refine CJ.seq ?_
    refine CJ.region ?_
    refine LJ.yd rfl (Yd.mvI rfl) ?_
    refine LJ.op rfl (OpR.mk (enc := encB) false (m := n) rfl rfl rfl (by first | rfl | omega | (simp; done) | (simp; omega) | (simp [upN_len]; omega) | (simp [idxBy_len]; omega) | (simp [marks_len]; omega) | (simp [upN_len]; done) | (simp [idxBy_len]; done) | (simp [marks_len]; done) | (simp at *; omega))) ?_
    rintro _ _ ⟨g13, rfl, rfl⟩
    refine LJ.norm [_] rfl ?_
    refine LJ.yd rfl (Yd.asS rfl) ?_
    refine LJ.nil ?_
    refine CJ.seq ?_
    refine CJ.seq ?_
    refine CJ.region ?_
    refine LJ.yd rfl (Yd.mvS rfl) ?_
    refine LJ.yd rfl (Yd.len rfl) ?_
    refine LJ.yd rfl (Yd.mvI rfl) ?_
    refine LJ.nil ?_
    refine CJ.block ?_
    refine CJ.loopF [1, 5, 14, 15] (Nat × List Bool) (fun ⟨k, L⟩ => k ≤ l.length ∧ (l.take k).Nodup ∧ (∀ x ∈ l.take k, 0 ≤ x ∧ x < n) ∧ L.length = n ∧ ∀ (j : Nat) (b : Bool), L[j]? = some b → (b = true ↔ (j : Int) ∈ l.take k)) (fun ⟨k, L⟩ => [(16, vI k)]) (fun ⟨k, L⟩ => [LR encB 4 1 (some ⟨g13, 0, none⟩) n L]) (fun ⟨k, L⟩ => l.length - k) (0, List.replicate n false) [] [] [0] rfl rfl rfl ?_ ⟨rfl, trivial⟩ ?_
    · exact ⟨by omega, by simp, by simp, by simp, fun j b h => by rw [List.getElem?_replicate] at h; split at h; cases h; simp; cases h⟩
    · rintro ⟨k, L⟩ σ ⟨hk1, hnd, hrg, hL, hLb⟩
      refine CJ.norm [_] rfl ?_
      refine CJ.seq ?_
      refine CJ.region ?_
      refine LJ.splitD rfl (Yd.lss rfl rfl) (fun h17 => ?_) (fun h17 => ?_)
      · refine LJ.nil ?_
        refine CJ.seq ?_
        refine CJ.condT rfl ?_
        refine CJ.skip ?_
        refine CJ.seq ?_
        refine CJ.block ?_
        refine CJ.seq ?_
        refine CJ.region ?_
        refine LJ.idxA rfl hl rfl rfl (by omega) (by first | rfl | omega | (simp; done) | (simp; omega) | (simp [upN_len]; omega) | (simp [idxBy_len]; omega) | (simp [marks_len]; omega) | (simp [upN_len]; done) | (simp [idxBy_len]; done) | (simp [marks_len]; done) | (simp at *; omega)) (fun ib18 io18 ia18 ir18 => ?_)
        refine LJ.ldA 0 (fun u => vI u) (fun _ => rfl) ir18 rfl rfl rfl (by first | rfl | omega | (simp; done) | (simp; omega) | (simp [upN_len]; omega) | (simp [idxBy_len]; omega) | (simp [marks_len]; omega) | (simp [upN_len]; done) | (simp [idxBy_len]; done) | (simp [marks_len]; done) | (simp at *; omega)) (fun u19 hu19 => ?_)
        try simp only [Int.toNat_natCast] at hu19
        refine LJ.yd rfl (Yd.asI rfl) ?_
        refine LJ.nil ?_
        refine CJ.seq ?_
        refine CJ.seq ?_
        refine CJ.region ?_
        refine LJ.yd rfl (Yd.mvI rfl) ?_
        refine LJ.splitD rfl (Yd.lss rfl rfl) (fun h21 => ?_) (fun h21 => ?_)
        · refine LJ.yd rfl (Yd.mvB rfl) ?_
          refine LJ.gF rfl rfl ?_
          refine LJ.gF rfl rfl ?_
          refine LJ.gF rfl rfl ?_
          refine LJ.yd rfl (Yd.pickTB rfl rfl) ?_
          refine LJ.yd rfl (Yd.mvB rfl) ?_
          refine LJ.gF rfl rfl ?_
          refine LJ.gF rfl rfl ?_
          refine LJ.gF rfl rfl ?_
          refine LJ.gF rfl rfl ?_
          refine LJ.yd rfl (Yd.pickTB rfl rfl) ?_
          refine LJ.nil ?_
          refine CJ.condT rfl ?_
          refine CJ.seq ?_
          refine CJ.region ?_
          refine LJ.yd rfl (Yd.asB rfl) ?_
          refine LJ.nil ?_
          refine CJ.ret ?_
          refine Fin.V (Res.one (ResV.tmp (v := .bool false) rfl)) ?_
          refine congrArg Value.bool (Eq.symm ?_)
          first
            | (refine decide_eq_false fun h => ?_; have := h.2.2 u19 (List.mem_of_getElem? hu19); omega)
            | (refine decide_eq_false fun h => nodup_not h.2.1 hu19 ?_
               have := (hLb _ _ hu31).1 h31
               rwa [show ((u19.toNat : Nat) : Int) = u19 by omega] at this)
            | (refine decide_eq_false fun h => ?_; have := h.1; omega)
            | (rw [List.take_of_length_le (by omega)] at hnd hrg; exact decide_eq_true ⟨by omega, hnd, hrg⟩)
        · refine LJ.yd rfl (Yd.mvB rfl) ?_
          refine LJ.gT rfl ?_
          refine LJ.yd rfl (Yd.mvI rfl) ?_
          refine LJ.gT rfl ?_
          refine LJ.yd rfl (Yd.mvI rfl) ?_
          refine LJ.gT rfl ?_
          refine LJ.splitD rfl (Yd.geq rfl rfl) (fun h25 => ?_) (fun h25 => ?_)
          · refine LJ.yd rfl (Yd.pickFB rfl rfl) ?_
            refine LJ.yd rfl (Yd.mvB rfl) ?_
            refine LJ.gF rfl rfl ?_
            refine LJ.gF rfl rfl ?_
            refine LJ.gF rfl rfl ?_
            refine LJ.gF rfl rfl ?_
            refine LJ.yd rfl (Yd.pickTB rfl rfl) ?_
            refine LJ.nil ?_
            refine CJ.condT rfl ?_
            refine CJ.seq ?_
            refine CJ.region ?_
            refine LJ.yd rfl (Yd.asB rfl) ?_
            refine LJ.nil ?_
            refine CJ.ret ?_
            refine Fin.V (Res.one (ResV.tmp (v := .bool false) rfl)) ?_
            refine congrArg Value.bool (Eq.symm ?_)
            first
              | (refine decide_eq_false fun h => ?_; have := h.2.2 u19 (List.mem_of_getElem? hu19); omega)
              | (refine decide_eq_false fun h => nodup_not h.2.1 hu19 ?_
                 have := (hLb _ _ hu31).1 h31
                 rwa [show ((u19.toNat : Nat) : Int) = u19 by omega] at this)
              | (refine decide_eq_false fun h => ?_; have := h.1; omega)
              | (rw [List.take_of_length_le (by omega)] at hnd hrg; exact decide_eq_true ⟨by omega, hnd, hrg⟩)
          · refine LJ.yd rfl (Yd.pickFB rfl rfl) ?_
            refine LJ.yd rfl (Yd.mvB rfl) ?_
            refine LJ.gT rfl ?_
            refine LJ.yd rfl (Yd.mvS rfl) ?_
            refine LJ.gT rfl ?_
            refine LJ.yd rfl (Yd.mvI rfl) ?_
            refine LJ.gT rfl ?_
            refine LJ.idxR 0 rfl rfl rfl rfl (by omega) (by first | rfl | omega | (simp; done) | (simp; omega) | (simp [upN_len]; omega) | (simp [idxBy_len]; omega) | (simp [marks_len]; omega) | (simp [upN_len]; done) | (simp [idxBy_len]; done) | (simp [marks_len]; done) | (simp at *; omega)) (by first | rfl | omega | (simp; done) | (simp; omega) | (simp [upN_len]; omega) | (simp [idxBy_len]; omega) | (simp [marks_len]; omega) | (simp [upN_len]; done) | (simp [idxBy_len]; done) | (simp [marks_len]; done) | (simp at *; omega)) (fun ib30 ia30 => ?_)
            refine LJ.gT rfl ?_
            refine LJ.ldRB 0 0 (fun u => u) (fun _ => rfl) rfl ia30 rfl rfl rfl (by first | rfl | omega | (simp; done) | (simp; omega) | (simp [upN_len]; omega) | (simp [idxBy_len]; omega) | (simp [marks_len]; omega) | (simp [upN_len]; done) | (simp [idxBy_len]; done) | (simp [marks_len]; done) | (simp at *; omega)) (fun u31 hu31 h31 => ?_) (fun u31 hu31 h31 => ?_)
            · try simp only [Int.toNat_natCast] at hu31
              refine LJ.yd rfl (Yd.pickFB rfl rfl) ?_
              refine LJ.nil ?_
              refine CJ.condT rfl ?_
              refine CJ.seq ?_
              refine CJ.region ?_
              refine LJ.yd rfl (Yd.asB rfl) ?_
              refine LJ.nil ?_
              refine CJ.ret ?_
              refine Fin.V (Res.one (ResV.tmp (v := .bool false) rfl)) ?_
              refine congrArg Value.bool (Eq.symm ?_)
              first
                | (refine decide_eq_false fun h => ?_; have := h.2.2 u19 (List.mem_of_getElem? hu19); omega)
                | (refine decide_eq_false fun h => nodup_not h.2.1 hu19 ?_
                   have := (hLb _ _ hu31).1 h31
                   rwa [show ((u19.toNat : Nat) : Int) = u19 by omega] at this)
                | (refine decide_eq_false fun h => ?_; have := h.1; omega)
                | (rw [List.take_of_length_le (by omega)] at hnd hrg; exact decide_eq_true ⟨by omega, hnd, hrg⟩)
            · try simp only [Int.toNat_natCast] at hu31
              refine LJ.yd rfl (Yd.pickFB rfl rfl) ?_
              refine LJ.nil ?_
              refine CJ.condF rfl ?_
              refine CJ.skip ?_
              refine CJ.region ?_
              refine LJ.yd rfl (Yd.mvS rfl) ?_
              refine LJ.yd rfl (Yd.mvI rfl) ?_
              refine LJ.idxR 0 rfl rfl rfl rfl (by omega) (by first | rfl | omega | (simp; done) | (simp; omega) | (simp [upN_len]; omega) | (simp [idxBy_len]; omega) | (simp [marks_len]; omega) | (simp [upN_len]; done) | (simp [idxBy_len]; done) | (simp [marks_len]; done) | (simp at *; omega)) (by first | rfl | omega | (simp; done) | (simp; omega) | (simp [upN_len]; omega) | (simp [idxBy_len]; omega) | (simp [marks_len]; omega) | (simp [upN_len]; done) | (simp [idxBy_len]; done) | (simp [marks_len]; done) | (simp at *; omega)) (fun ib35 ia35 => ?_)
              refine LJ.op rfl (OpR.st1 (enc := encB) (e1 := fun u => .bool u) 0 (fun _ => rfl) (fun _ => rfl) (fun _ => rfl) rfl ia35 rfl rfl rfl (by first | rfl | omega | (simp; done) | (simp; omega) | (simp [upN_len]; omega) | (simp [idxBy_len]; omega) | (simp [marks_len]; omega) | (simp [upN_len]; done) | (simp [idxBy_len]; done) | (simp [marks_len]; done) | (simp at *; omega))) ?_
              rintro _ _ ⟨rfl, rfl⟩
              refine LJ.norm [_] rfl ?_
              refine LJ.nil ?_
              refine CJ.region ?_
              refine LJ.yd rfl (Yd.add rfl rfl (by unfold I64; omega)) ?_
              refine LJ.yd rfl (Yd.mvI rfl) ?_
              refine LJ.nil ?_
              refine ⟨(k + 1, _), ?_, ⟨rfl, rfl, rfl, rfl, trivial⟩, ⟨rfl, trivial⟩, Ent.refl _, ?_⟩
              · refine ⟨by omega, ?_⟩
                have hni : u19 ∉ l.take k := fun hm => by
                  have := (hLb _ _ hu31).2 (by rw [show ((u19.toNat : Nat) : Int) = u19 by omega]; exact hm)
                  rw [this] at h31; cases h31
                refine ⟨nodup_snoc hnd hu19 hni, fun x hx => ?_, by simp [hL], fun j b hb => ?_⟩
                · rw [takeC hu19, List.mem_append, List.mem_singleton] at hx
                  rcases hx with hx | rfl
                  · exact hrg x hx
                  · omega
                · rw [List.getElem?_set] at hb
                  rw [takeC hu19, List.mem_append, List.mem_singleton]
                  split at hb
                  · rename_i he
                    split at hb
                    · cases hb; simp; right; omega
                    · cases hb
                  · rename_i he
                    rw [hLb j b hb]
                    constructor
                    · exact fun h => .inl h
                    · rintro (h | h)
                      · exact h
                      · omega
              · first | omega | (dsimp only; omega) | (simp only []; omega)
      · refine LJ.nil ?_
        refine CJ.seq ?_
        refine CJ.condF rfl ?_
        refine CJ.exit ?_
        refine CJ.seq ?_
        refine CJ.region ?_
        refine LJ.yd rfl (Yd.asB rfl) ?_
        refine LJ.nil ?_
        refine CJ.ret ?_
        refine Fin.V (Res.one (ResV.tmp (v := .bool true) rfl)) ?_
        refine congrArg Value.bool (Eq.symm ?_)
        first
          | (refine decide_eq_false fun h => ?_; have := h.2.2 u19 (List.mem_of_getElem? hu19); omega)
          | (refine decide_eq_false fun h => nodup_not h.2.1 hu19 ?_
             have := (hLb _ _ hu31).1 h31
             rwa [show ((u19.toNat : Nat) : Int) = u19 by omega] at this)
          | (refine decide_eq_false fun h => ?_; have := h.1; omega)
          | (rw [List.take_of_length_le (by omega)] at hnd hrg; exact decide_eq_true ⟨by omega, hnd, hrg⟩)
def ends (c h : Int) : List Job → List Int
  | [] => []
  | j :: r => (max (c + j.Cut) h + j.Heat) :: ends (c + j.Cut) (max (c + j.Cut) h + j.Heat) r
theorem ends_len : ∀ (r : List Job) (c h : Int), (ends c h r).length = r.length
  | [], _, _ => rfl
  | j :: r, c, h => by simp [ends, ends_len r]
theorem ends_last : ∀ (r : List Job) (c h : Int), 0 < r.length → (ends c h r)[r.length - 1]? = some (spn c h r)
  | [], _, _, h0 => by simp at h0
  | [j], c, h, _ => rfl
  | j :: k :: r, c, h, _ => by
    have := ends_last (k :: r) (c + j.Cut) (max (c + j.Cut) h + j.Heat) (by simp)
    rw [ends, spn]
    simpa using this
theorem EndsOf_ok {A : Amb} {v w : Value} {l : List Job} {o : List Int} (hl : RdL Job.enc 2 A.h v l) (ho : RdL encI 1 A.h w o) (hj : jobsOk l = true) (hp : OrdP o l.length) : Ctr Try.prog 55 #[v, w] A [] (RLP encI 3 1 (ends 0 0 (o.map (gj l)))) := by
  obtain ⟨la, lc, rfl, hlb, hl⟩ := hl.un
  obtain ⟨oa, oc, rfl, hob, ho⟩ := ho.un
  have hj2 := jobsOk_iff.1 hj
  have hp2 := hp
  unfold OrdP at hp2
  refine Ctr.body (args := [_, _]) Try.func55 rfl Try.ntmps55 Try.results55 (by simp) ?_
  refine CJ.seq ?_
  refine CJ.region ?_
  refine LJ.yd rfl (Yd.asS rfl) ?_
  refine LJ.nil ?_
  refine CJ.seq ?_
  refine CJ.seq ?_
  refine CJ.region ?_
  refine LJ.yd rfl (Yd.mvS rfl) ?_
  refine LJ.callV rfl (fun k hk dk => hj ▸ ValidJobs_ok (RdRow.up hl)) ?_
  refine LJ.yd rfl (Yd.not rfl) ?_
  refine LJ.yd rfl (Yd.mvB rfl) ?_
  refine LJ.gT rfl ?_
  refine LJ.yd rfl (Yd.mvS rfl) ?_
  refine LJ.gT rfl ?_
  refine LJ.yd rfl (Yd.mvS rfl) ?_
  refine LJ.gT rfl ?_
  refine LJ.yd rfl (Yd.len rfl) ?_
  refine LJ.gT rfl ?_
  refine LJ.callV rfl (fun k hk dk => decide_eq_true hp ▸ isOrder_ok (RdRow.up ho) (by omega)) ?_
  refine LJ.gT rfl ?_
  refine LJ.yd rfl (Yd.not rfl) ?_
  refine LJ.yd rfl (Yd.pickFB rfl rfl) ?_
  refine LJ.nil ?_
  refine CJ.condF rfl ?_
  refine CJ.skip ?_
  refine CJ.seq ?_
  refine CJ.region ?_
  refine LJ.yd rfl (Yd.asS rfl) ?_
  refine LJ.nil ?_
  refine CJ.seq ?_
  refine CJ.region ?_
  refine LJ.yd rfl (Yd.asI rfl) ?_
  refine LJ.yd rfl (Yd.asI rfl) ?_
  refine LJ.nil ?_
  refine CJ.seq ?_
  refine CJ.seq ?_
  refine CJ.region ?_
  refine LJ.yd rfl (Yd.mvS rfl) ?_
  refine LJ.yd rfl (Yd.len rfl) ?_
  refine LJ.yd rfl (Yd.mvI rfl) ?_
  refine LJ.nil ?_
  refine CJ.block ?_
  refine CJ.ent (Ent.addLR encI 3 1) ?_
  refine CJ.norm [_] rfl ?_
  refine CJ.loopF [0, 4, 20, 21] (Nat × Int × Int × List Int × Option Addr × Nat × Nat) (fun ⟨k, x, y, e, eA, eN, eC⟩ => (eN = e.length) ∧ k ≤ o.length ∧ e ++ ends x y ((o.drop k).map (gj l)) = ends 0 0 (o.map (gj l)) ∧ 0 ≤ x ∧ x ≤ 500 * k ∧ 0 ≤ y ∧ y ≤ 1000 * k ∧ e.length = k) (fun ⟨k, x, y, e, eA, eN, eC⟩ => [(22, vI k), (6, vI x), (7, vI y), (5, .slice eA eN eC)]) (fun ⟨k, x, y, e, eA, eN, eC⟩ => [LR encI 3 1 eA eC e]) (fun ⟨k, x, y, e, eA, eN, eC⟩ => o.length - k) (0, 0, 0, [], _, _, _) [] [] [0] rfl rfl rfl ?_ ⟨rfl, rfl, rfl, rfl, trivial⟩ ?_
  · exact ⟨(by first | rfl | omega | (simp; done) | (simp; omega) | (simp [upN_len]; omega) | (simp [idxBy_len]; omega) | (simp [marks_len]; omega) | (simp [upN_len]; done) | (simp [idxBy_len]; done) | (simp [marks_len]; done) | (simp at *; omega)), ⟨by omega, rfl, by omega, by omega, by omega, by omega, rfl⟩⟩
  · rintro ⟨k, x, y, e, eA, eN, eC⟩ σ ⟨hlNe, ⟨hk1, he, hx0, hx1, hy0, hy1, hel⟩⟩
    subst hlNe
    refine CJ.norm [_] rfl ?_
    refine CJ.seq ?_
    refine CJ.region ?_
    refine LJ.splitD rfl (Yd.lss rfl rfl) (fun h23 => ?_) (fun h23 => ?_)
    · refine LJ.nil ?_
      refine CJ.seq ?_
      refine CJ.condT rfl ?_
      refine CJ.skip ?_
      refine CJ.seq ?_
      refine CJ.block ?_
      refine CJ.seq ?_
      refine CJ.region ?_
      refine LJ.idxA rfl ho rfl rfl (by omega) (by first | rfl | omega | (simp; done) | (simp; omega) | (simp [upN_len]; omega) | (simp [idxBy_len]; omega) | (simp [marks_len]; omega) | (simp [upN_len]; done) | (simp [idxBy_len]; done) | (simp [marks_len]; done) | (simp at *; omega)) (fun ib24 io24 ia24 ir24 => ?_)
      refine LJ.ldA 0 (fun u => vI u) (fun _ => rfl) ir24 rfl rfl rfl (by first | rfl | omega | (simp; done) | (simp; omega) | (simp [upN_len]; omega) | (simp [idxBy_len]; omega) | (simp [marks_len]; omega) | (simp [upN_len]; done) | (simp [idxBy_len]; done) | (simp [marks_len]; done) | (simp at *; omega)) (fun u25 hu25 => ?_)
      try simp only [Int.toNat_natCast] at hu25
      have hf25 := hp2.2.2 u25 (List.mem_of_getElem? hu25)
      refine LJ.yd rfl (Yd.asI rfl) ?_
      refine LJ.nil ?_
      refine CJ.seq ?_
      refine CJ.region ?_
      refine LJ.yd rfl (Yd.mvI rfl) ?_
      refine LJ.yd rfl (Yd.mvS rfl) ?_
      refine LJ.yd rfl (Yd.mvI rfl) ?_
      refine LJ.idxA rfl hl rfl rfl (by omega) (by first | rfl | omega | (simp; done) | (simp; omega) | (simp [upN_len]; omega) | (simp [idxBy_len]; omega) | (simp [marks_len]; omega) | (simp [upN_len]; done) | (simp [idxBy_len]; done) | (simp [marks_len]; done) | (simp at *; omega)) (fun ib29 io29 ia29 ir29 => ?_)
      refine LJ.yd rfl (Yd.fieldAddr rfl) ?_
      refine LJ.ldA 0 (fun u => vI u.Cut) (fun _ => rfl) ir29 rfl rfl rfl (by first | rfl | omega | (simp; done) | (simp; omega) | (simp [upN_len]; omega) | (simp [idxBy_len]; omega) | (simp [marks_len]; omega) | (simp [upN_len]; done) | (simp [idxBy_len]; done) | (simp [marks_len]; done) | (simp at *; omega)) (fun u31 hu31 => ?_)
      try simp only [Int.toNat_natCast] at hu31
      have hf31 := hj2.2 u31 (List.mem_of_getElem? hu31)
      refine LJ.yd rfl (Yd.add rfl rfl (by unfold I64; omega)) ?_
      refine LJ.yd rfl (Yd.asI rfl) ?_
      refine LJ.nil ?_
      refine CJ.seq ?_
      refine CJ.region ?_
      refine LJ.yd rfl (Yd.mvI rfl) ?_
      refine LJ.yd rfl (Yd.mvI rfl) ?_
      refine LJ.yd rfl (Yd.max' rfl rfl) ?_
      refine LJ.yd rfl (Yd.mvS rfl) ?_
      refine LJ.yd rfl (Yd.mvI rfl) ?_
      refine LJ.idxA rfl hl rfl rfl (by omega) (by first | rfl | omega | (simp; done) | (simp; omega) | (simp [upN_len]; omega) | (simp [idxBy_len]; omega) | (simp [marks_len]; omega) | (simp [upN_len]; done) | (simp [idxBy_len]; done) | (simp [marks_len]; done) | (simp at *; omega)) (fun ib38 io38 ia38 ir38 => ?_)
      refine LJ.yd rfl (Yd.fieldAddr rfl) ?_
      refine LJ.ldA 1 (fun u => vI u.Heat) (fun _ => rfl) ir38 rfl rfl rfl (by first | rfl | omega | (simp; done) | (simp; omega) | (simp [upN_len]; omega) | (simp [idxBy_len]; omega) | (simp [marks_len]; omega) | (simp [upN_len]; done) | (simp [idxBy_len]; done) | (simp [marks_len]; done) | (simp at *; omega)) (fun u40 hu40 => ?_)
      try simp only [Int.toNat_natCast] at hu40
      have hf40 := hj2.2 u40 (List.mem_of_getElem? hu40)
      refine LJ.yd rfl (Yd.add rfl rfl (by unfold I64; omega)) ?_
      refine LJ.yd rfl (Yd.asI rfl) ?_
      refine LJ.nil ?_
      refine CJ.region ?_
      refine LJ.yd rfl (Yd.mvS rfl) ?_
      refine LJ.yd rfl (Yd.mvI rfl) ?_
      refine LJ.op rfl (OpR.buildSlice (cs := [_]) rfl rfl) ?_
      rintro _ _ ⟨b2, rfl, rfl⟩
      refine LJ.op rfl (OpR.apT (enc := encI) [_] 0 1 rfl rfl rfl (by first | rfl | omega | (simp; done) | (simp; omega) | (simp [upN_len]; omega) | (simp [idxBy_len]; omega) | (simp [marks_len]; omega) | (simp [upN_len]; done) | (simp [idxBy_len]; done) | (simp [marks_len]; done) | (simp at *; omega)) rfl rfl rfl rfl rfl (by first | rfl | omega | (simp; done) | (simp; omega) | (simp [upN_len]; omega) | (simp [idxBy_len]; omega) | (simp [marks_len]; omega) | (simp [upN_len]; done) | (simp [idxBy_len]; done) | (simp [marks_len]; done) | (simp at *; omega))) ?_
      rintro _ _ ⟨ra45, rc45, rfl, rfl⟩
      refine LJ.norm [_, _] rfl ?_
      refine LJ.yd rfl (Yd.asS rfl) ?_
      refine LJ.nil ?_
      refine CJ.region ?_
      refine LJ.yd rfl (Yd.add rfl rfl (by unfold I64; omega)) ?_
      refine LJ.yd rfl (Yd.mvI rfl) ?_
      refine LJ.nil ?_
      refine ⟨(k + 1, _, _, _, _, _, _), ?_, ⟨rfl, rfl, rfl, rfl, trivial⟩, ⟨rfl, rfl, rfl, rfl, trivial⟩, Ent.pick [0] [1] rfl, ?_⟩
      · refine ⟨(by first | rfl | omega | (simp; done) | (simp; omega) | (simp [upN_len]; omega) | (simp [idxBy_len]; omega) | (simp [marks_len]; omega) | (simp [upN_len]; done) | (simp [idxBy_len]; done) | (simp [marks_len]; done) | (simp at *; omega)), ?_⟩
        refine ⟨by omega, ?_⟩
        have e40 : u40 = u31 := by rw [hu31] at hu40; exact (Option.some.inj hu40).symm
        rw [e40] at hf40 ⊢
        rw [dropC hu25, List.map_cons, ends, gjC hu31] at he
        exact ⟨by simpa using he, by omega, by omega, by omega, by omega, by simp [hel]⟩
      · first | omega | (dsimp only; omega) | (simp only []; omega)
    · refine LJ.nil ?_
      refine CJ.seq ?_
      refine CJ.condF rfl ?_
      refine CJ.exit ?_
      refine CJ.seq ?_
      refine CJ.region ?_
      refine LJ.yd rfl (Yd.mvS rfl) ?_
      refine LJ.yd rfl (Yd.asS rfl) ?_
      refine LJ.nil ?_
      refine CJ.ret ?_
      refine Fin.RL 0 (Res.one (ResV.tmp (v := .slice _ _ _) rfl)) rfl (by first | rfl | omega | (simp; done) | (simp; omega) | (simp [upN_len]; omega) | (simp [idxBy_len]; omega) | (simp [marks_len]; omega) | (simp [upN_len]; done) | (simp [idxBy_len]; done) | (simp [marks_len]; done) | (simp at *; omega)) ?_
      rw [← he, List.drop_of_length_le (by omega)]; simp [ends]
def spR (l : List Job) (o : List Int) : Int := if jobsOk l = true ∧ OrdP o l.length then spn 0 0 (o.map (gj l)) else -1
theorem SpanOfI_ok {A : Amb} {v w : Value} {l : List Job} {o : List Int} (hl : RdL Job.enc 2 A.h v l) (ho : RdL encI 1 A.h w o) (hn : l.length ≤ 1000) : Ctr Try.prog 29 #[v, w] A [] (Val (vI (spR l o))) := by
  obtain ⟨la, lc, rfl, hlb, hl⟩ := hl.un
  obtain ⟨oa, oc, rfl, hob, ho⟩ := ho.un
  refine Ctr.body (args := [_, _]) Try.func29 rfl Try.ntmps29 Try.results29 (by simp) ?_
  refine CJ.seq ?_
  refine CJ.region ?_
  refine LJ.yd rfl (Yd.asI rfl) ?_
  refine LJ.nil ?_
  refine CJ.seq ?_
  refine CJ.seq ?_
  refine CJ.region ?_
  refine LJ.yd rfl (Yd.mvS rfl) ?_
  refine LJ.callB rfl (fun k hk dk => ValidJobs_ok (RdRow.up hl)) (fun h7 => ?_) (fun h7 => ?_)
  · refine LJ.yd rfl (Yd.not rfl) ?_
    refine LJ.yd rfl (Yd.mvB rfl) ?_
    refine LJ.gT rfl ?_
    refine LJ.yd rfl (Yd.mvS rfl) ?_
    refine LJ.gT rfl ?_
    refine LJ.yd rfl (Yd.mvS rfl) ?_
    refine LJ.gT rfl ?_
    refine LJ.yd rfl (Yd.len rfl) ?_
    refine LJ.gT rfl ?_
    refine LJ.callB rfl (fun k hk dk => isOrder_ok (RdRow.up ho) hn) (fun h13 => ?_) (fun h13 => ?_)
    · refine LJ.gT rfl ?_
      refine LJ.yd rfl (Yd.not rfl) ?_
      refine LJ.yd rfl (Yd.pickFB rfl rfl) ?_
      refine LJ.nil ?_
      refine CJ.condF rfl ?_
      refine CJ.skip ?_
      refine CJ.seq ?_
      have hop : OrdP o l.length := of_decide_eq_true h13
      have hel := ends_len (o.map (gj l)) 0 0
      rw [List.length_map] at hel
      have hlast := ends_last (o.map (gj l)) 0 0
      rw [List.length_map] at hlast
      refine CJ.region ?_
      refine LJ.yd rfl (Yd.mvS rfl) ?_
      refine LJ.yd rfl (Yd.mvS rfl) ?_
      refine LJ.call0 rfl (fun k hk dk => EndsOf_ok (RdRow.up hl) (RdRow.up ho) h7 hop) ?_
      rintro _ _ ⟨ra18, rc18, rfl, rfl⟩
      refine LJ.norm [_] rfl ?_
      refine LJ.yd rfl (Yd.asS rfl) ?_
      refine LJ.nil ?_
      refine CJ.seq ?_
      refine CJ.seq ?_
      refine CJ.region ?_
      refine LJ.yd rfl (Yd.mvS rfl) ?_
      refine LJ.yd rfl (Yd.len rfl) ?_
      refine LJ.splitD rfl (Yd.eql rfl rfl) (fun h21 => ?_) (fun h21 => ?_)
      · refine LJ.nil ?_
        refine CJ.condT rfl ?_
        refine CJ.seq ?_
        refine CJ.region ?_
        refine LJ.yd rfl (Yd.asI rfl) ?_
        refine LJ.nil ?_
        refine CJ.ret ?_
        refine Fin.V (Res.one (ResV.tmp (v := .int _ _) rfl)) ?_
        refine congrArg vI (Eq.symm ?_)
        unfold spR
        first
          | (rw [if_neg (fun h => nomatch (show true = false from h.1.symm.trans h7))]; done)
          | (rw [if_neg (fun h => nomatch (show true = false from (decide_eq_true h.2).symm.trans h13))]; done)
          | (rw [if_pos ⟨h7, hop⟩, List.eq_nil_of_length_eq_zero (l := o) (by omega)]; rfl)
          | (rw [if_pos ⟨h7, hop⟩]
             have := hlast (by omega)
             rw [show (((ends 0 0 (o.map (gj l))).length : Int) - 1).toNat = o.length - 1 by omega, this] at hu27
             exact Option.some.inj hu27)
      · refine LJ.nil ?_
        refine CJ.condF rfl ?_
        refine CJ.skip ?_
        refine CJ.seq ?_
        refine CJ.region ?_
        refine LJ.yd rfl (Yd.mvS rfl) ?_
        refine LJ.yd rfl (Yd.mvS rfl) ?_
        refine LJ.yd rfl (Yd.len rfl) ?_
        refine LJ.yd rfl (Yd.sub rfl rfl (by unfold I64; omega)) ?_
        refine LJ.idxR 0 rfl rfl rfl rfl (by omega) (by first | rfl | omega | (simp; done) | (simp; omega) | (simp [upN_len]; omega) | (simp [idxBy_len]; omega) | (simp [marks_len]; omega) | (simp [upN_len]; done) | (simp [idxBy_len]; done) | (simp [marks_len]; done) | (simp at *; omega)) (by first | rfl | omega | (simp; done) | (simp; omega) | (simp [upN_len]; omega) | (simp [idxBy_len]; omega) | (simp [marks_len]; omega) | (simp [upN_len]; done) | (simp [idxBy_len]; done) | (simp [marks_len]; done) | (simp at *; omega)) (fun ib26 ia26 => ?_)
        refine LJ.ldR 0 0 (fun u => vI u) (fun _ => rfl) rfl ia26 rfl rfl rfl (by first | rfl | omega | (simp; done) | (simp; omega) | (simp [upN_len]; omega) | (simp [idxBy_len]; omega) | (simp [marks_len]; omega) | (simp [upN_len]; done) | (simp [idxBy_len]; done) | (simp [marks_len]; done) | (simp at *; omega)) (fun u27 hu27 => ?_)
        try simp only [Int.toNat_natCast] at hu27
        refine LJ.yd rfl (Yd.asI rfl) ?_
        refine LJ.nil ?_
        refine CJ.ret ?_
        refine Fin.V (Res.one (ResV.tmp (v := .int _ _) rfl)) ?_
        refine congrArg vI (Eq.symm ?_)
        unfold spR
        first
          | (rw [if_neg (fun h => nomatch (show true = false from h.1.symm.trans h7))]; done)
          | (rw [if_neg (fun h => nomatch (show true = false from (decide_eq_true h.2).symm.trans h13))]; done)
          | (rw [if_pos ⟨h7, hop⟩, List.eq_nil_of_length_eq_zero (l := o) (by omega)]; rfl)
          | (rw [if_pos ⟨h7, hop⟩]
             have := hlast (by omega)
             rw [show (((ends 0 0 (o.map (gj l))).length : Int) - 1).toNat = o.length - 1 by omega, this] at hu27
             exact Option.some.inj hu27)
    · refine LJ.gT rfl ?_
      refine LJ.yd rfl (Yd.not rfl) ?_
      refine LJ.yd rfl (Yd.pickFB rfl rfl) ?_
      refine LJ.nil ?_
      refine CJ.condT rfl ?_
      refine CJ.seq ?_
      refine CJ.region ?_
      refine LJ.yd rfl (Yd.asI rfl) ?_
      refine LJ.nil ?_
      refine CJ.ret ?_
      refine Fin.V (Res.one (ResV.tmp (v := .int _ _) rfl)) ?_
      refine congrArg vI (Eq.symm ?_)
      unfold spR
      first
        | (rw [if_neg (fun h => nomatch (show true = false from h.1.symm.trans h7))]; done)
        | (rw [if_neg (fun h => nomatch (show true = false from (decide_eq_true h.2).symm.trans h13))]; done)
        | (rw [if_pos ⟨h7, hop⟩, List.eq_nil_of_length_eq_zero (l := o) (by omega)]; rfl)
        | (rw [if_pos ⟨h7, hop⟩]
           have := hlast (by omega)
           rw [show (((ends 0 0 (o.map (gj l))).length : Int) - 1).toNat = o.length - 1 by omega, this] at hu27
           exact Option.some.inj hu27)
  · refine LJ.yd rfl (Yd.not rfl) ?_
    refine LJ.yd rfl (Yd.mvB rfl) ?_
    refine LJ.gF rfl rfl ?_
    refine LJ.gF rfl rfl ?_
    refine LJ.gF rfl rfl ?_
    refine LJ.gF rfl rfl ?_
    refine LJ.gF rfl rfl ?_
    refine LJ.yd rfl (Yd.pickTB rfl rfl) ?_
    refine LJ.nil ?_
    refine CJ.condT rfl ?_
    refine CJ.seq ?_
    refine CJ.region ?_
    refine LJ.yd rfl (Yd.asI rfl) ?_
    refine LJ.nil ?_
    refine CJ.ret ?_
    refine Fin.V (Res.one (ResV.tmp (v := .int _ _) rfl)) ?_
    refine congrArg vI (Eq.symm ?_)
    unfold spR
    first
      | (rw [if_neg (fun h => nomatch (show true = false from h.1.symm.trans h7))]; done)
      | (rw [if_neg (fun h => nomatch (show true = false from (decide_eq_true h.2).symm.trans h13))]; done)
      | (rw [if_pos ⟨h7, hop⟩, List.eq_nil_of_length_eq_zero (l := o) (by omega)]; rfl)
      | (rw [if_pos ⟨h7, hop⟩]
         have := hlast (by omega)
         rw [show (((ends 0 0 (o.map (gj l))).length : Int) - 1).toNat = o.length - 1 by omega, this] at hu27
         exact Option.some.inj hu27)
def sbR (l : List Job) : Int := if jobsOk l = true then (if l.length = 0 then 0 else max (sC l + mnH l) (sH l + mnC l)) else -1
theorem mn_le : ∀ l : List Job, mnC l ≤ 500 ∧ mnH l ≤ 500
  | [] => by simp [mnC, mnH]
  | j :: r => by have := mn_le r; simp only [mnC, mnH]; omega
theorem SpanBoundI_ok {A : Amb} {v : Value} {l : List Job} (hl : RdL Job.enc 2 A.h v l) : Ctr Try.prog 27 #[v] A [] (Val (vI (sbR l))) := by
  obtain ⟨la, lc, rfl, hlb, hl⟩ := hl.un
  have hml := mn_le l
  refine Ctr.body (args := [_]) Try.func27 rfl Try.ntmps27 Try.results27 (by simp) ?_
  refine CJ.seq ?_
  refine CJ.region ?_
  refine LJ.yd rfl (Yd.asI rfl) ?_
  refine LJ.nil ?_
  refine CJ.seq ?_
  refine CJ.seq ?_
  refine CJ.region ?_
  refine LJ.yd rfl (Yd.mvS rfl) ?_
  refine LJ.callB rfl (fun k hk dk => ValidJobs_ok (RdRow.up hl)) (fun h10 => ?_) (fun h10 => ?_)
  · refine LJ.yd rfl (Yd.not rfl) ?_
    refine LJ.nil ?_
    refine CJ.condF rfl ?_
    refine CJ.skip ?_
    refine CJ.seq ?_
    refine CJ.seq ?_
    refine CJ.region ?_
    refine LJ.yd rfl (Yd.mvS rfl) ?_
    refine LJ.yd rfl (Yd.len rfl) ?_
    refine LJ.splitD rfl (Yd.eql rfl rfl) (fun h14 => ?_) (fun h14 => ?_)
    · refine LJ.nil ?_
      refine CJ.condT rfl ?_
      refine CJ.seq ?_
      refine CJ.region ?_
      refine LJ.yd rfl (Yd.asI rfl) ?_
      refine LJ.nil ?_
      refine CJ.ret ?_
      refine Fin.V (Res.one (ResV.tmp (v := .int _ _) rfl)) ?_
      refine congrArg vI (Eq.symm ?_)
      unfold sbR
      first
        | (rw [if_neg (fun h => nomatch (show true = false from h.symm.trans h10))]; done)
        | (rw [if_pos h10, if_pos (by omega)]; done)
        | (rw [if_pos h10, if_neg (by omega)]
           rw [List.drop_of_length_le (by omega)] at hx hy hp hq; simp only [sC, sH, mnC, mnH] at hx hy hp hq; omega)
    · refine LJ.nil ?_
      refine CJ.condF rfl ?_
      refine CJ.skip ?_
      refine CJ.seq ?_
      have hj2 := jobsOk_iff.1 h10
      refine CJ.region ?_
      refine LJ.yd rfl (Yd.asI rfl) ?_
      refine LJ.yd rfl (Yd.asI rfl) ?_
      refine LJ.nil ?_
      refine CJ.seq ?_
      refine CJ.region ?_
      refine LJ.yd rfl (Yd.asI rfl) ?_
      refine LJ.yd rfl (Yd.asI rfl) ?_
      refine LJ.nil ?_
      refine CJ.seq ?_
      refine CJ.seq ?_
      refine CJ.region ?_
      refine LJ.yd rfl (Yd.mvS rfl) ?_
      refine LJ.yd rfl (Yd.len rfl) ?_
      refine LJ.yd rfl (Yd.mvI rfl) ?_
      refine LJ.nil ?_
      refine CJ.block ?_
      refine CJ.loopK [2, 15, 16] (Nat × Int × Int × Int × Int) (fun ⟨k, x, y, p, q⟩ => k ≤ l.length ∧ x + sC (l.drop k) = sC l ∧ y + sH (l.drop k) = sH l ∧ min p (mnC (l.drop k)) = mnC l ∧ min q (mnH (l.drop k)) = mnH l ∧ 0 ≤ x ∧ x ≤ 500 * k ∧ 0 ≤ y ∧ y ≤ 500 * k ∧ 0 ≤ p ∧ p ≤ 500 ∧ 0 ≤ q ∧ q ≤ 500) (fun ⟨k, x, y, p, q⟩ => [(17, vI k), (3, vI x), (4, vI y), (5, vI p), (6, vI q)]) (fun ⟨k, x, y, p, q⟩ => l.length - k) (0, 0, 0, 500, 500) ?_ ⟨rfl, rfl, rfl, rfl, rfl, trivial⟩ ?_
      · exact ⟨by omega, by simp, by simp, by simp; omega, by simp; omega, by omega, by omega, by omega, by omega, by omega, by omega, by omega, by omega⟩
      · rintro ⟨k, x, y, p, q⟩ σ ⟨hk1, hx, hy, hp, hq, hx0, hx1, hy0, hy1, hp0, hp1, hq0, hq1⟩
        refine CJ.seq ?_
        refine CJ.region ?_
        refine LJ.splitD rfl (Yd.lss rfl rfl) (fun h18 => ?_) (fun h18 => ?_)
        · refine LJ.nil ?_
          refine CJ.seq ?_
          refine CJ.condT rfl ?_
          refine CJ.skip ?_
          refine CJ.seq ?_
          refine CJ.block ?_
          refine CJ.seq ?_
          refine CJ.region ?_
          refine LJ.idxA rfl hl rfl rfl (by omega) (by first | rfl | omega | (simp; done) | (simp; omega) | (simp [upN_len]; omega) | (simp [idxBy_len]; omega) | (simp [marks_len]; omega) | (simp [upN_len]; done) | (simp [idxBy_len]; done) | (simp [marks_len]; done) | (simp at *; omega)) (fun ib19 io19 ia19 ir19 => ?_)
          refine LJ.lgA (enc := Job.enc) (fun u => [vI u.Cut, vI u.Heat]) (fun _ => rfl) (fun _ => rfl) ir19 rfl rfl rfl (by first | rfl | omega | (simp; done) | (simp; omega) | (simp [upN_len]; omega) | (simp [idxBy_len]; omega) | (simp [marks_len]; omega) | (simp [upN_len]; done) | (simp [idxBy_len]; done) | (simp [marks_len]; done) | (simp at *; omega)) (fun u20 hu20 => ?_)
          try simp only [Int.toNat_natCast] at hu20
          have hf20 := hj2.2 u20 (List.mem_of_getElem? hu20)
          refine LJ.alloc ([_, _] : List Value) rfl rfl (fun b1 => ?_)
          refine LJ.store (v := .agg #[_, _]) (us := [_, _]) 0 rfl rfl rfl rfl rfl rfl rfl rfl ?_
          refine LJ.nil ?_
          refine CJ.seq ?_
          refine CJ.region ?_
          refine LJ.yd rfl (Yd.mvI rfl) ?_
          refine LJ.yd rfl (Yd.fieldAddr rfl) ?_
          refine LJ.yd rfl (Yd.loadC 0 rfl rfl rfl) ?_
          refine LJ.yd rfl (Yd.add rfl rfl (by unfold I64; omega)) ?_
          refine LJ.yd rfl (Yd.asI rfl) ?_
          refine LJ.nil ?_
          refine CJ.seq ?_
          refine CJ.region ?_
          refine LJ.yd rfl (Yd.mvI rfl) ?_
          refine LJ.yd rfl (Yd.fieldAddr rfl) ?_
          refine LJ.yd rfl (Yd.loadC 0 rfl rfl rfl) ?_
          refine LJ.yd rfl (Yd.add rfl rfl (by unfold I64; omega)) ?_
          refine LJ.yd rfl (Yd.asI rfl) ?_
          refine LJ.nil ?_
          refine CJ.seq ?_
          refine CJ.region ?_
          refine LJ.yd rfl (Yd.mvI rfl) ?_
          refine LJ.yd rfl (Yd.fieldAddr rfl) ?_
          refine LJ.yd rfl (Yd.loadC 0 rfl rfl rfl) ?_
          refine LJ.yd rfl (Yd.min' rfl rfl) ?_
          refine LJ.yd rfl (Yd.asI rfl) ?_
          refine LJ.nil ?_
          refine CJ.region ?_
          refine LJ.yd rfl (Yd.mvI rfl) ?_
          refine LJ.yd rfl (Yd.fieldAddr rfl) ?_
          refine LJ.yd rfl (Yd.loadC 0 rfl rfl rfl) ?_
          refine LJ.yd rfl (Yd.min' rfl rfl) ?_
          refine LJ.yd rfl (Yd.asI rfl) ?_
          refine LJ.nil ?_
          refine CJ.region ?_
          refine LJ.yd rfl (Yd.add rfl rfl (by unfold I64; omega)) ?_
          refine LJ.yd rfl (Yd.mvI rfl) ?_
          refine LJ.nil ?_
          refine ⟨(k + 1, _, _, _, _), ?_, ⟨rfl, rfl, rfl, trivial⟩, ⟨rfl, rfl, rfl, rfl, rfl, trivial⟩, Ent.pick [] [0] rfl, ?_⟩
          · refine ⟨by omega, ?_⟩
            rw [dropC hu20] at hx hy hp hq; simp only [sC, sH, mnC, mnH] at hx hy hp hq; exact ⟨by omega, by omega, by omega, by omega, by omega, by omega, by omega, by omega, by omega, by omega, by omega, by omega⟩
          · first | omega | (dsimp only; omega) | (simp only []; omega)
        · refine LJ.nil ?_
          refine CJ.seq ?_
          refine CJ.condF rfl ?_
          refine CJ.exit ?_
          refine CJ.seq ?_
          refine CJ.region ?_
          refine LJ.yd rfl (Yd.mvI rfl) ?_
          refine LJ.yd rfl (Yd.mvI rfl) ?_
          refine LJ.yd rfl (Yd.add rfl rfl (by unfold I64; omega)) ?_
          refine LJ.yd rfl (Yd.mvI rfl) ?_
          refine LJ.yd rfl (Yd.mvI rfl) ?_
          refine LJ.yd rfl (Yd.add rfl rfl (by unfold I64; omega)) ?_
          refine LJ.yd rfl (Yd.max' rfl rfl) ?_
          refine LJ.yd rfl (Yd.asI rfl) ?_
          refine LJ.nil ?_
          refine CJ.ret ?_
          refine Fin.V (Res.one (ResV.tmp (v := .int _ _) rfl)) ?_
          refine congrArg vI (Eq.symm ?_)
          unfold sbR
          first
            | (rw [if_neg (fun h => nomatch (show true = false from h.symm.trans h10))]; done)
            | (rw [if_pos h10, if_pos (by omega)]; done)
            | (rw [if_pos h10, if_neg (by omega)]
               rw [List.drop_of_length_le (by omega)] at hx hy hp hq; simp only [sC, sH, mnC, mnH] at hx hy hp hq; omega)
  · refine LJ.yd rfl (Yd.not rfl) ?_
    refine LJ.nil ?_
    refine CJ.condT rfl ?_
    refine CJ.seq ?_
    refine CJ.region ?_
    refine LJ.yd rfl (Yd.asI rfl) ?_
    refine LJ.nil ?_
    refine CJ.ret ?_
    refine Fin.V (Res.one (ResV.tmp (v := .int _ _) rfl)) ?_
    refine congrArg vI (Eq.symm ?_)
    unfold sbR
    first
      | (rw [if_neg (fun h => nomatch (show true = false from h.symm.trans h10))]; done)
      | (rw [if_pos h10, if_pos (by omega)]; done)
      | (rw [if_pos h10, if_neg (by omega)]
         rw [List.drop_of_length_le (by omega)] at hx hy hp hq; simp only [sC, sH, mnC, mnH] at hx hy hp hq; omega)
theorem SpanBoundS_ok {A : Amb} {v : Value} {l : List Job} (hl : RdL Job.enc 2 A.h v l) : Ctr Try.prog 28 #[v] A [] (Val (vI (sbR l))) := by
  obtain ⟨la, lc, rfl, hlb, hl⟩ := hl.un
  have hml := mn_le l
  refine Ctr.body (args := [_]) Try.func28 rfl Try.ntmps28 Try.results28 (by simp) ?_
  refine CJ.seq ?_
  refine CJ.region ?_
  refine LJ.yd rfl (Yd.asI rfl) ?_
  refine LJ.nil ?_
  refine CJ.seq ?_
  refine CJ.seq ?_
  refine CJ.region ?_
  refine LJ.yd rfl (Yd.mvS rfl) ?_
  refine LJ.callB rfl (fun k hk dk => validJobs_ok (RdRow.up hl)) (fun h10 => ?_) (fun h10 => ?_)
  · refine LJ.yd rfl (Yd.not rfl) ?_
    refine LJ.nil ?_
    refine CJ.condF rfl ?_
    refine CJ.skip ?_
    refine CJ.seq ?_
    have hj2 := jobsOk_iff.1 h10
    refine CJ.region ?_
    refine LJ.yd rfl (Yd.asI rfl) ?_
    refine LJ.nil ?_
    refine CJ.seq ?_
    refine CJ.region ?_
    refine LJ.yd rfl (Yd.asI rfl) ?_
    refine LJ.nil ?_
    refine CJ.seq ?_
    refine CJ.seq ?_
    refine CJ.region ?_
    refine LJ.yd rfl (Yd.asI rfl) ?_
    refine LJ.nil ?_
    refine CJ.block ?_
    refine CJ.loopK [0, 2] (Nat × Int × Int) (fun ⟨k, x, y⟩ => k ≤ l.length ∧ x + sC (l.drop k) = sC l ∧ y + sH (l.drop k) = sH l ∧ 0 ≤ x ∧ x ≤ 500 * k ∧ 0 ≤ y ∧ y ≤ 500 * k) (fun ⟨k, x, y⟩ => [(5, vI k), (3, vI x), (4, vI y)]) (fun ⟨k, x, y⟩ => l.length - k) (0, 0, 0) ?_ ⟨rfl, rfl, rfl, trivial⟩ ?_
    · exact ⟨by omega, by simp, by simp, by omega, by omega, by omega, by omega⟩
    · rintro ⟨k, x, y⟩ σ ⟨hk1, hx, hy, hx0, hx1, hy0, hy1⟩
      refine CJ.seq ?_
      refine CJ.seq ?_
      refine CJ.region ?_
      refine LJ.yd rfl (Yd.mvI rfl) ?_
      refine LJ.yd rfl (Yd.mvS rfl) ?_
      refine LJ.yd rfl (Yd.len rfl) ?_
      refine LJ.splitD rfl (Yd.lss rfl rfl) (fun h15 => ?_) (fun h15 => ?_)
      · refine LJ.nil ?_
        refine CJ.condT rfl ?_
        refine CJ.skip ?_
        refine CJ.seq ?_
        refine CJ.block ?_
        refine CJ.seq ?_
        refine CJ.region ?_
        refine LJ.yd rfl (Yd.mvI rfl) ?_
        refine LJ.yd rfl (Yd.mvS rfl) ?_
        refine LJ.yd rfl (Yd.mvI rfl) ?_
        refine LJ.idxA rfl hl rfl rfl (by omega) (by first | rfl | omega | (simp; done) | (simp; omega) | (simp [upN_len]; omega) | (simp [idxBy_len]; omega) | (simp [marks_len]; omega) | (simp [upN_len]; done) | (simp [idxBy_len]; done) | (simp [marks_len]; done) | (simp at *; omega)) (fun ib21 io21 ia21 ir21 => ?_)
        refine LJ.yd rfl (Yd.fieldAddr rfl) ?_
        refine LJ.ldA 0 (fun u => vI u.Cut) (fun _ => rfl) ir21 rfl rfl rfl (by first | rfl | omega | (simp; done) | (simp; omega) | (simp [upN_len]; omega) | (simp [idxBy_len]; omega) | (simp [marks_len]; omega) | (simp [upN_len]; done) | (simp [idxBy_len]; done) | (simp [marks_len]; done) | (simp at *; omega)) (fun u23 hu23 => ?_)
        try simp only [Int.toNat_natCast] at hu23
        have hf23 := hj2.2 u23 (List.mem_of_getElem? hu23)
        refine LJ.yd rfl (Yd.add rfl rfl (by unfold I64; omega)) ?_
        refine LJ.yd rfl (Yd.asI rfl) ?_
        refine LJ.nil ?_
        refine CJ.region ?_
        refine LJ.yd rfl (Yd.mvI rfl) ?_
        refine LJ.yd rfl (Yd.mvS rfl) ?_
        refine LJ.yd rfl (Yd.mvI rfl) ?_
        refine LJ.idxA rfl hl rfl rfl (by omega) (by first | rfl | omega | (simp; done) | (simp; omega) | (simp [upN_len]; omega) | (simp [idxBy_len]; omega) | (simp [marks_len]; omega) | (simp [upN_len]; done) | (simp [idxBy_len]; done) | (simp [marks_len]; done) | (simp at *; omega)) (fun ib28 io28 ia28 ir28 => ?_)
        refine LJ.yd rfl (Yd.fieldAddr rfl) ?_
        refine LJ.ldA 1 (fun u => vI u.Heat) (fun _ => rfl) ir28 rfl rfl rfl (by first | rfl | omega | (simp; done) | (simp; omega) | (simp [upN_len]; omega) | (simp [idxBy_len]; omega) | (simp [marks_len]; omega) | (simp [upN_len]; done) | (simp [idxBy_len]; done) | (simp [marks_len]; done) | (simp at *; omega)) (fun u30 hu30 => ?_)
        try simp only [Int.toNat_natCast] at hu30
        obtain rfl : u23 = u30 := by rw [hu23] at hu30; exact Option.some.inj hu30
        refine LJ.yd rfl (Yd.add rfl rfl (by unfold I64; omega)) ?_
        refine LJ.yd rfl (Yd.asI rfl) ?_
        refine LJ.nil ?_
        refine CJ.region ?_
        refine LJ.yd rfl (Yd.mvI rfl) ?_
        refine LJ.yd rfl (Yd.add rfl rfl (by unfold I64; omega)) ?_
        refine LJ.yd rfl (Yd.asI rfl) ?_
        refine LJ.nil ?_
        refine ⟨(k + 1, _, _), ?_, ⟨rfl, rfl, trivial⟩, ⟨rfl, rfl, rfl, trivial⟩, Ent.refl _, ?_⟩
        · refine ⟨by omega, ?_⟩
          rw [dropC hu23] at hx hy; simp only [sC, sH] at hx hy; exact ⟨by omega, by omega, by omega, by omega, by omega, by omega⟩
        · first | omega | (dsimp only; omega) | (simp only []; omega)
      · refine LJ.nil ?_
        refine CJ.condF rfl ?_
        refine CJ.exit ?_
        refine CJ.seq ?_
        refine CJ.region ?_
        refine LJ.yd rfl (Yd.asI rfl) ?_
        refine LJ.nil ?_
        refine CJ.seq ?_
        refine CJ.region ?_
        refine LJ.yd rfl (Yd.asI rfl) ?_
        refine LJ.nil ?_
        refine CJ.seq ?_
        refine CJ.seq ?_
        refine CJ.region ?_
        refine LJ.yd rfl (Yd.asI rfl) ?_
        refine LJ.nil ?_
        refine CJ.block ?_
        refine CJ.loopK [0, 2, 3, 4] (Nat × Int × Int) (fun ⟨j, p, q⟩ => j ≤ l.length ∧ min p (mnC (l.drop j)) = mnC l ∧ min q (mnH (l.drop j)) = mnH l ∧ 0 ≤ p ∧ p ≤ 500 ∧ 0 ≤ q ∧ q ≤ 500) (fun ⟨j, p, q⟩ => [(8, vI j), (6, vI p), (7, vI q)]) (fun ⟨j, p, q⟩ => l.length - j) (0, 500, 500) ?_ ⟨rfl, rfl, rfl, trivial⟩ ?_
        · exact ⟨by omega, by simp; omega, by simp; omega, by omega, by omega, by omega, by omega⟩
        · rintro ⟨j, p, q⟩ σ ⟨hj1, hp, hq, hp0, hp1, hq0, hq1⟩
          refine CJ.seq ?_
          refine CJ.seq ?_
          refine CJ.region ?_
          refine LJ.yd rfl (Yd.mvI rfl) ?_
          refine LJ.yd rfl (Yd.mvS rfl) ?_
          refine LJ.yd rfl (Yd.len rfl) ?_
          refine LJ.splitD rfl (Yd.lss rfl rfl) (fun h35 => ?_) (fun h35 => ?_)
          · refine LJ.nil ?_
            refine CJ.condT rfl ?_
            refine CJ.skip ?_
            refine CJ.seq ?_
            refine CJ.block ?_
            refine CJ.seq ?_
            refine CJ.region ?_
            refine LJ.yd rfl (Yd.mvI rfl) ?_
            refine LJ.yd rfl (Yd.mvS rfl) ?_
            refine LJ.yd rfl (Yd.mvI rfl) ?_
            refine LJ.idxA rfl hl rfl rfl (by omega) (by first | rfl | omega | (simp; done) | (simp; omega) | (simp [upN_len]; omega) | (simp [idxBy_len]; omega) | (simp [marks_len]; omega) | (simp [upN_len]; done) | (simp [idxBy_len]; done) | (simp [marks_len]; done) | (simp at *; omega)) (fun ib41 io41 ia41 ir41 => ?_)
            refine LJ.yd rfl (Yd.fieldAddr rfl) ?_
            refine LJ.ldA 0 (fun u => vI u.Cut) (fun _ => rfl) ir41 rfl rfl rfl (by first | rfl | omega | (simp; done) | (simp; omega) | (simp [upN_len]; omega) | (simp [idxBy_len]; omega) | (simp [marks_len]; omega) | (simp [upN_len]; done) | (simp [idxBy_len]; done) | (simp [marks_len]; done) | (simp at *; omega)) (fun u43 hu43 => ?_)
            try simp only [Int.toNat_natCast] at hu43
            have hf43 := hj2.2 u43 (List.mem_of_getElem? hu43)
            refine LJ.yd rfl (Yd.min' rfl rfl) ?_
            refine LJ.yd rfl (Yd.asI rfl) ?_
            refine LJ.nil ?_
            refine CJ.region ?_
            refine LJ.yd rfl (Yd.mvI rfl) ?_
            refine LJ.yd rfl (Yd.mvS rfl) ?_
            refine LJ.yd rfl (Yd.mvI rfl) ?_
            refine LJ.idxA rfl hl rfl rfl (by omega) (by first | rfl | omega | (simp; done) | (simp; omega) | (simp [upN_len]; omega) | (simp [idxBy_len]; omega) | (simp [marks_len]; omega) | (simp [upN_len]; done) | (simp [idxBy_len]; done) | (simp [marks_len]; done) | (simp at *; omega)) (fun ib48 io48 ia48 ir48 => ?_)
            refine LJ.yd rfl (Yd.fieldAddr rfl) ?_
            refine LJ.ldA 1 (fun u => vI u.Heat) (fun _ => rfl) ir48 rfl rfl rfl (by first | rfl | omega | (simp; done) | (simp; omega) | (simp [upN_len]; omega) | (simp [idxBy_len]; omega) | (simp [marks_len]; omega) | (simp [upN_len]; done) | (simp [idxBy_len]; done) | (simp [marks_len]; done) | (simp at *; omega)) (fun u50 hu50 => ?_)
            try simp only [Int.toNat_natCast] at hu50
            obtain rfl : u43 = u50 := by rw [hu43] at hu50; exact Option.some.inj hu50
            refine LJ.yd rfl (Yd.min' rfl rfl) ?_
            refine LJ.yd rfl (Yd.asI rfl) ?_
            refine LJ.nil ?_
            refine CJ.region ?_
            refine LJ.yd rfl (Yd.mvI rfl) ?_
            refine LJ.yd rfl (Yd.add rfl rfl (by unfold I64; omega)) ?_
            refine LJ.yd rfl (Yd.asI rfl) ?_
            refine LJ.nil ?_
            refine ⟨(j + 1, _, _), ?_, ⟨rfl, rfl, rfl, rfl, trivial⟩, ⟨rfl, rfl, rfl, trivial⟩, Ent.refl _, ?_⟩
            · refine ⟨by omega, ?_⟩
              rw [dropC hu43] at hp hq; simp only [mnC, mnH] at hp hq; exact ⟨by omega, by omega, by omega, by omega, by omega, by omega⟩
            · first | omega | (dsimp only; omega) | (simp only []; omega)
          · refine LJ.nil ?_
            refine CJ.condF rfl ?_
            refine CJ.exit ?_
            refine CJ.seq ?_
            refine CJ.seq ?_
            refine CJ.region ?_
            refine LJ.yd rfl (Yd.mvS rfl) ?_
            refine LJ.yd rfl (Yd.len rfl) ?_
            refine LJ.splitD rfl (Yd.eql rfl rfl) (fun h54 => ?_) (fun h54 => ?_)
            · refine LJ.nil ?_
              refine CJ.condT rfl ?_
              refine CJ.seq ?_
              refine CJ.region ?_
              refine LJ.yd rfl (Yd.asI rfl) ?_
              refine LJ.nil ?_
              refine CJ.ret ?_
              refine Fin.V (Res.one (ResV.tmp (v := .int _ _) rfl)) ?_
              refine congrArg vI (Eq.symm ?_)
              unfold sbR
              first
                | (rw [if_neg (fun h => nomatch (show true = false from h.symm.trans h10))]; done)
                | (rw [if_pos h10, if_pos (by omega)]; done)
                | (rw [if_pos h10, if_neg (by omega)]
                   rw [List.drop_of_length_le (by omega)] at hx hy hp hq; simp only [sC, sH, mnC, mnH] at hx hy hp hq; omega)
            · refine LJ.nil ?_
              refine CJ.condF rfl ?_
              refine CJ.skip ?_
              refine CJ.seq ?_
              refine CJ.region ?_
              refine LJ.yd rfl (Yd.mvI rfl) ?_
              refine LJ.yd rfl (Yd.mvI rfl) ?_
              refine LJ.yd rfl (Yd.add rfl rfl (by unfold I64; omega)) ?_
              refine LJ.yd rfl (Yd.mvI rfl) ?_
              refine LJ.yd rfl (Yd.mvI rfl) ?_
              refine LJ.yd rfl (Yd.add rfl rfl (by unfold I64; omega)) ?_
              refine LJ.yd rfl (Yd.max' rfl rfl) ?_
              refine LJ.yd rfl (Yd.asI rfl) ?_
              refine LJ.nil ?_
              refine CJ.ret ?_
              refine Fin.V (Res.one (ResV.tmp (v := .int _ _) rfl)) ?_
              refine congrArg vI (Eq.symm ?_)
              unfold sbR
              first
                | (rw [if_neg (fun h => nomatch (show true = false from h.symm.trans h10))]; done)
                | (rw [if_pos h10, if_pos (by omega)]; done)
                | (rw [if_pos h10, if_neg (by omega)]
                   rw [List.drop_of_length_le (by omega)] at hx hy hp hq; simp only [sC, sH, mnC, mnH] at hx hy hp hq; omega)
  · refine LJ.yd rfl (Yd.not rfl) ?_
    refine LJ.nil ?_
    refine CJ.condT rfl ?_
    refine CJ.seq ?_
    refine CJ.region ?_
    refine LJ.yd rfl (Yd.asI rfl) ?_
    refine LJ.nil ?_
    refine CJ.ret ?_
    refine Fin.V (Res.one (ResV.tmp (v := .int _ _) rfl)) ?_
    refine congrArg vI (Eq.symm ?_)
    unfold sbR
    first
      | (rw [if_neg (fun h => nomatch (show true = false from h.symm.trans h10))]; done)
      | (rw [if_pos h10, if_pos (by omega)]; done)
      | (rw [if_pos h10, if_neg (by omega)]
         rw [List.drop_of_length_le (by omega)] at hx hy hp hq; simp only [sC, sH, mnC, mnH] at hx hy hp hq; omega)
def JobsD (rb : Nat) (a : Option Addr) (n c : Nat) (p : Int) (v : Value) (gs : List HProp) : Prop :=
  ∃ (l : List Job) (aa : Option Addr) (m cc : Nat) (q : Int), v = .slice aa m cc ∧ gs = [Rd rb a n c q, LR Job.enc 41 2 aa cc l] ∧ m = l.length ∧ p ≤ q ∧ q ≤ p + 100 ∧ l.length ≤ 7 ∧ ∀ u ∈ l, -1 ≤ u.Cut ∧ u.Cut ≤ 501 ∧ -1 ≤ u.Heat ∧ u.Heat ≤ 501
theorem mem_set1 {α : Type} {P : α → Prop} {l : List α} {i : Nat} {x : α} (h : ∀ u ∈ l, P u) (hx : P x) : ∀ u ∈ l.set i x, P u := fun u hu => (List.mem_or_eq_of_mem_set hu).elim (h u) (fun e => e ▸ hx)
theorem mem_snoc {α : Type} {P : α → Prop} {l : List α} {x : α} (h : ∀ u ∈ l, P u) (hx : P x) : ∀ u ∈ l ++ [x], P u := fun u hu => (List.mem_append.1 hu).elim (h u) (fun e => by rw [List.mem_singleton.1 e]; exact hx)
theorem someJobs_ok {A : Amb} {rb n c : Nat} {a : Option Addr} {p : Int} (hcode : RdCode A.h a n) (hp0 : 0 ≤ p) (hp1 : p ≤ 10000) :
    Ctr Try.prog 52 #[.pointer (some ⟨rb, 0, none⟩)] A [Rd rb a n c p] (JobsD rb a n c p) := by
  refine Ctr.body (args := [_]) Try.func52 rfl Try.ntmps52 Try.results52 (by simp) ?_
  refine CJ.seq ?_
  refine CJ.region ?_
  refine LJ.yd rfl (Yd.asS rfl) ?_
  refine LJ.nil ?_
  refine CJ.seq ?_
  refine CJ.region ?_
  refine LJ.op rfl (OpR.buildSlice (cs := []) rfl rfl) ?_
  rintro _ _ ⟨b1, rfl, rfl⟩
  refine LJ.yd rfl (Yd.asS rfl) ?_
  refine LJ.nil ?_
  refine CJ.seq ?_
  refine CJ.seq ?_
  refine CJ.region ?_
  refine LJ.yd rfl (Yd.mvP rfl) ?_
  refine LJ.op rfl (OpR.buildSlice (cs := [_, _, _, _, _, _]) rfl rfl) ?_
  rintro _ _ ⟨b2, rfl, rfl⟩
  refine LJ.call (pickF _ [1, 2]) (pickF _ [0]) rfl (perm_pickF _ [1, 2] [0] rfl) (fun k hk dk => one_ok (l := [4, 3, 5, 2, 7, 0]) (hcode.up) (LitAt.of (l := [4, 3, 5, 2, 7, 0]) hk dk 1 rfl) (by simp) (by omega) (by omega)) ?_
  rintro _ _ ⟨x8, rfl, hx8, rfl⟩
  simp only [List.mem_cons, List.not_mem_nil, or_false] at hx8
  refine LJ.norm [_, _, _] rfl ?_
  refine LJ.yd rfl (Yd.asI rfl) ?_
  refine LJ.nil ?_
  refine CJ.block ?_
  refine CJ.imp1 0 rfl (fun _ h => Cel.lr (enc := Job.enc) (k := 2) (m := 0) [] rfl rfl rfl rfl h) ?_
  refine CJ.norm [_, _, _] rfl ?_
  refine CJ.loopF [0, 2] (Int × Int × List (Job) × Option Addr × Nat × Nat) (fun ⟨m, q, l, lA, lN, lC⟩ => (lN = l.length) ∧ 0 ≤ m ∧ m + l.length ≤ 7 ∧ p ≤ q ∧ q + 4 * m ≤ p + 40 ∧ ∀ u ∈ l, -1 ≤ u.Cut ∧ u.Cut ≤ 501 ∧ -1 ≤ u.Heat ∧ u.Heat ≤ 501) (fun ⟨m, q, l, lA, lN, lC⟩ => [(4, vI m), (3, .slice lA lN lC)]) (fun ⟨m, q, l, lA, lN, lC⟩ => [LR Job.enc 41 2 lA lC l, Rd rb a n c q]) (fun ⟨m, q, l, lA, lN, lC⟩ => m.toNat) (x8, p + 1, [], _, _, _) [_] [1] [0, 2] rfl rfl rfl ?_ ⟨rfl, rfl, trivial⟩ ?_
  · exact ⟨(by first | rfl | omega | (simp; done) | (simp; omega) | (simp [upN_len]; omega) | (simp [idxBy_len]; omega) | (simp [marks_len]; omega) | (simp [upN_len]; done) | (simp [idxBy_len]; done) | (simp [marks_len]; done) | (simp at *; omega)), ⟨by omega, by simp; omega, by omega, by omega, by simp⟩⟩
  · rintro ⟨m, q, l, lA, lN, lC⟩ σ ⟨hlNl, ⟨hm0, hml, hq0, hq1, hlm⟩⟩
    subst hlNl
    refine CJ.norm [_, _, _] rfl ?_
    refine CJ.seq ?_
    refine CJ.seq ?_
    refine CJ.region ?_
    refine LJ.yd rfl (Yd.mvI rfl) ?_
    refine LJ.splitD rfl (Yd.gtr rfl rfl) (fun h10 => ?_) (fun h10 => ?_)
    · refine LJ.nil ?_
      refine CJ.condT rfl ?_
      refine CJ.skip ?_
      refine CJ.seq ?_
      refine CJ.block ?_
      refine CJ.region ?_
      refine LJ.yd rfl (Yd.mvS rfl) ?_
      refine LJ.yd rfl (Yd.mvP rfl) ?_
      refine LJ.yd rfl (Yd.mvP rfl) ?_
      refine LJ.call (pickF _ [0, 1]) (pickF _ [2]) rfl (perm_pickF _ [0, 1] [2] rfl) (fun k hk dk => pick_ok (hcode.up) (by omega) (by omega)) ?_
      rintro _ _ ⟨x16, rfl, hx16, hy16, rfl⟩
      refine LJ.norm [_, _, _] rfl ?_
      refine LJ.yd rfl (Yd.add rfl rfl (by unfold I64; omega)) ?_
      refine LJ.op rfl (OpR.buildSlice (cs := [_, _, _, _]) rfl rfl) ?_
      rintro _ _ ⟨b3, rfl, rfl⟩
      refine LJ.call (pickF _ [0, 1, 3]) (pickF _ [2]) rfl (perm_pickF _ [0, 1, 3] [2] rfl) (fun k hk dk => one_ok (l := [3, 5, 1 + x16, 0]) (hcode.up) (LitAt.of (l := [3, 5, 1 + x16, 0]) hk dk 2 rfl) (by simp) (by omega) (by omega)) ?_
      rintro _ _ ⟨x19, rfl, hx19, rfl⟩
      simp only [List.mem_cons, List.not_mem_nil, or_false] at hx19
      refine LJ.norm [_, _, _, _] rfl ?_
      refine LJ.yd rfl (Yd.mvP rfl) ?_
      refine LJ.yd rfl (Yd.mvP rfl) ?_
      refine LJ.call (pickF _ [0, 1, 2]) (pickF _ [3]) rfl (perm_pickF _ [0, 1, 2] [3] rfl) (fun k hk dk => pick_ok (hcode.up) (by omega) (by omega)) ?_
      rintro _ _ ⟨x22, rfl, hx22, hy22, rfl⟩
      refine LJ.norm [_, _, _, _] rfl ?_
      refine LJ.yd rfl (Yd.add rfl rfl (by unfold I64; omega)) ?_
      refine LJ.op rfl (OpR.buildSlice (cs := [_, _, _, _]) rfl rfl) ?_
      rintro _ _ ⟨b4, rfl, rfl⟩
      refine LJ.call (pickF _ [0, 1, 2, 4]) (pickF _ [3]) rfl (perm_pickF _ [0, 1, 2, 4] [3] rfl) (fun k hk dk => one_ok (l := [4, 5, 1 + x22, 0]) (hcode.up) (LitAt.of (l := [4, 5, 1 + x22, 0]) hk dk 3 rfl) (by simp) (by omega) (by omega)) ?_
      rintro _ _ ⟨x25, rfl, hx25, rfl⟩
      simp only [List.mem_cons, List.not_mem_nil, or_false] at hx25
      refine LJ.norm [_, _, _, _, _] rfl ?_
      refine LJ.yd rfl (Yd.build (cs := [_, _]) rfl) ?_
      refine LJ.op rfl (OpR.buildSlice (cs := [_, _]) rfl rfl) ?_
      rintro _ _ ⟨b5, rfl, rfl⟩
      refine LJ.op rfl (OpR.apT (enc := Job.enc) [⟨_, _⟩] 1 5 rfl rfl rfl (by first | rfl | omega | (simp; done) | (simp; omega) | (simp [upN_len]; omega) | (simp [idxBy_len]; omega) | (simp [marks_len]; omega) | (simp [upN_len]; done) | (simp [idxBy_len]; done) | (simp [marks_len]; done) | (simp at *; omega)) rfl rfl rfl rfl rfl (by first | rfl | omega | (simp; done) | (simp; omega) | (simp [upN_len]; omega) | (simp [idxBy_len]; omega) | (simp [marks_len]; omega) | (simp [upN_len]; done) | (simp [idxBy_len]; done) | (simp [marks_len]; done) | (simp at *; omega))) ?_
      rintro _ _ ⟨ra28, rc28, rfl, rfl⟩
      refine LJ.norm [_, _, _, _, _, _] rfl ?_
      refine LJ.yd rfl (Yd.asS rfl) ?_
      refine LJ.nil ?_
      refine CJ.region ?_
      refine LJ.yd rfl (Yd.mvI rfl) ?_
      refine LJ.yd rfl (Yd.sub rfl rfl (by unfold I64; omega)) ?_
      refine LJ.yd rfl (Yd.asI rfl) ?_
      refine LJ.nil ?_
      refine ⟨(_, _, _, _, _, _), ?_, ⟨rfl, rfl, trivial⟩, ⟨rfl, rfl, trivial⟩, Ent.pick [0, 1, 4] [2, 3, 5] rfl, ?_⟩
      · refine ⟨(by first | rfl | omega | (simp; done) | (simp; omega) | (simp [upN_len]; omega) | (simp [idxBy_len]; omega) | (simp [marks_len]; omega) | (simp [upN_len]; done) | (simp [idxBy_len]; done) | (simp [marks_len]; done) | (simp at *; omega)), ?_⟩
        exact ⟨by omega, by simp; omega, by omega, by omega, mem_snoc hlm (by dsimp only; omega)⟩
      · first | omega | (dsimp only; omega) | (simp only []; omega)
    · refine LJ.nil ?_
      refine CJ.condF rfl ?_
      refine CJ.exit ?_
      refine CJ.seq ?_
      refine CJ.seq ?_
      refine CJ.region ?_
      refine LJ.yd rfl (Yd.mvS rfl) ?_
      refine LJ.yd rfl (Yd.len rfl) ?_
      refine LJ.splitD rfl (Yd.gtr rfl rfl) (fun h31 => ?_) (fun h31 => ?_)
      · refine LJ.yd rfl (Yd.mvB rfl) ?_
        refine LJ.gT rfl ?_
        refine LJ.yd rfl (Yd.mvP rfl) ?_
        refine LJ.gT rfl ?_
        refine LJ.call (pickF _ [0, 1]) (pickF _ [2]) rfl (perm_pickF _ [0, 1] [2] rfl) (fun k hk dk => pick_ok (hcode.up) (by omega) (by omega)) ?_
        rintro _ _ ⟨x34, rfl, hx34, hy34, rfl⟩
        refine LJ.norm [_, _, _] rfl ?_
        refine LJ.gT rfl ?_
        refine LJ.splitD rfl (Yd.eql rfl rfl) (fun h35 => ?_) (fun h35 => ?_)
        · refine LJ.yd rfl (Yd.pickTB rfl rfl) ?_
          refine LJ.nil ?_
          refine CJ.condT rfl ?_
          obtain ⟨w, hw⟩ := someC (l := l) (j := 0) (by omega)
          have hfw := hlm w (List.mem_of_getElem? hw)
          refine CJ.region ?_
          refine LJ.yd rfl (Yd.mvS rfl) ?_
          refine LJ.yd rfl (Yd.mvP rfl) ?_
          refine LJ.op rfl (OpR.buildSlice (cs := [_, _]) rfl rfl) ?_
          rintro _ _ ⟨b6, rfl, rfl⟩
          refine LJ.call (pickF _ [0, 1, 3]) (pickF _ [2]) rfl (perm_pickF _ [0, 1, 3] [2] rfl) (fun k hk dk => one_ok (l := [-1, 501]) (hcode.up) (LitAt.of (l := [-1, 501]) hk dk 2 rfl) (by simp) (by omega) (by omega)) ?_
          rintro _ _ ⟨x40, rfl, hx40, rfl⟩
          simp only [List.mem_cons, List.not_mem_nil, or_false] at hx40
          refine LJ.norm [_, _, _, _] rfl ?_
          refine LJ.idxR 1 rfl rfl rfl rfl (by omega) (by first | rfl | omega | (simp; done) | (simp; omega) | (simp [upN_len]; omega) | (simp [idxBy_len]; omega) | (simp [marks_len]; omega) | (simp [upN_len]; done) | (simp [idxBy_len]; done) | (simp [marks_len]; done) | (simp at *; omega)) (by first | rfl | omega | (simp; done) | (simp; omega) | (simp [upN_len]; omega) | (simp [idxBy_len]; omega) | (simp [marks_len]; omega) | (simp [upN_len]; done) | (simp [idxBy_len]; done) | (simp [marks_len]; done) | (simp at *; omega)) (fun ib41 ia41 => ?_)
          refine LJ.yd rfl (Yd.fieldAddr rfl) ?_
          refine LJ.op rfl (OpR.stR (enc := Job.enc) (u' := ⟨w.Cut, x40⟩) 1 1 rfl ia41 rfl rfl hw rfl rfl rfl rfl rfl) ?_
          rintro _ _ ⟨rfl, rfl⟩
          refine LJ.norm [_, _, _, _] rfl ?_
          refine LJ.nil ?_
          refine CJ.seq ?_
          refine CJ.region ?_
          refine LJ.yd rfl (Yd.mvS rfl) ?_
          refine LJ.yd rfl (Yd.asS rfl) ?_
          refine LJ.nil ?_
          refine CJ.ret ?_
          exact Fin.R [_, _] (Res.one (ResV.tmp (v := .slice _ _ _) rfl)) ⟨_, _, _, _, _, rfl, rfl, by first | rfl | simp, by omega, by omega, by first | omega | (simp; omega), by first | exact mem_set1 hlm (by dsimp only; omega) | exact hlm⟩ (Ent.pick [3, 1] [0, 2] rfl)
        · refine LJ.yd rfl (Yd.pickTB rfl rfl) ?_
          refine LJ.nil ?_
          refine CJ.condF rfl ?_
          refine CJ.skip ?_
          refine CJ.seq ?_
          refine CJ.region ?_
          refine LJ.yd rfl (Yd.mvS rfl) ?_
          refine LJ.yd rfl (Yd.asS rfl) ?_
          refine LJ.nil ?_
          refine CJ.ret ?_
          exact Fin.R [_, _] (Res.one (ResV.tmp (v := .slice _ _ _) rfl)) ⟨_, _, _, _, _, rfl, rfl, by first | rfl | simp, by omega, by omega, by first | omega | (simp; omega), by first | exact mem_set1 hlm (by dsimp only; omega) | exact hlm⟩ (Ent.pick [2, 1] [0] rfl)
      · refine LJ.yd rfl (Yd.mvB rfl) ?_
        refine LJ.gF rfl rfl ?_
        refine LJ.gF rfl rfl ?_
        refine LJ.gF rfl rfl ?_
        refine LJ.yd rfl (Yd.pickFB rfl rfl) ?_
        refine LJ.nil ?_
        refine CJ.condF rfl ?_
        refine CJ.skip ?_
        refine CJ.seq ?_
        refine CJ.region ?_
        refine LJ.yd rfl (Yd.mvS rfl) ?_
        refine LJ.yd rfl (Yd.asS rfl) ?_
        refine LJ.nil ?_
        refine CJ.ret ?_
        exact Fin.R [_, _] (Res.one (ResV.tmp (v := .slice _ _ _) rfl)) ⟨_, _, _, _, _, rfl, rfl, by first | rfl | simp, by omega, by omega, by first | omega | (simp; omega), by first | exact mem_set1 hlm (by dsimp only; omega) | exact hlm⟩ (Ent.pick [2, 1] [0] rfl)
end Go.Proofs.Ytbgalcjkmgdaiaa
