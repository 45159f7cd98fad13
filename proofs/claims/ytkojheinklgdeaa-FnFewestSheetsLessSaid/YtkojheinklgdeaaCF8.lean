/-
  Sheets and panes: the laws, plainly.
-/
import Derived.Test.YtkojheinklgdeaaCF6
namespace Go.Proofs.Ytkojheinklgdeaa
open Go

abbrev CanN (W H : Int) (G : List Pane) : Prop := Can G W.toNat H.toNat
theorem cfR_iff {W H : Int} {ps : List Pane} : cfR W H ps = true ↔ cfOk W H ps = true ∧ CanN W H ps := by
  rw [cfR, Bool.and_eq_true, canB_iff, sel_all]
theorem wnum_mono {p : Pane} {w h w' h' : Int} (a : 0 < wnum p w h) (h1 : w ≤ w') (h2 : h ≤ h') : 0 < wnum p w' h' := by
  unfold wnum at *
  by_cases c1 : p.W ≤ w ∧ p.H ≤ h
  · rw [if_pos (⟨by omega, by omega⟩ : p.W ≤ w' ∧ p.H ≤ h')]
    split <;> omega
  · rw [if_neg c1] at a
    by_cases c2 : p.Turns = true ∧ p.W ≠ p.H ∧ p.H ≤ w ∧ p.W ≤ h
    · rw [if_pos (⟨c2.1, c2.2.1, by omega, by omega⟩ : p.Turns = true ∧ p.W ≠ p.H ∧ p.H ≤ w' ∧ p.W ≤ h')]
      split <;> omega
    · rw [if_neg c2] at a; omega
theorem cfOk_wide {W H : Int} {ps : List Pane} (h : cfOk W H ps = true) (hw : W < 16) : cfOk (W + 1) H ps = true := by
  obtain ⟨h1, h2, h3, h4, h5⟩ := cfOk_iff.1 h
  obtain ⟨w1, w2, w3, w4, w5, w6⟩ := workOk_iff.1 h1
  exact cfOk_iff.2 ⟨workOk_iff.2 ⟨by omega, by omega, w3, w4, w5, w6⟩, h2, by omega, h4, fun p hp => wnum_mono (h5 p hp) (by omega) (by omega)⟩
theorem cfOk_high {W H : Int} {ps : List Pane} (h : cfOk W H ps = true) (hw : H < 16) : cfOk W (H + 1) ps = true := by
  obtain ⟨h1, h2, h3, h4, h5⟩ := cfOk_iff.1 h
  obtain ⟨w1, w2, w3, w4, w5, w6⟩ := workOk_iff.1 h1
  exact cfOk_iff.2 ⟨workOk_iff.2 ⟨w1, w2, by omega, by omega, w5, w6⟩, h2, h3, by omega, fun p hp => wnum_mono (h5 p hp) (by omega) (by omega)⟩
theorem cfR_wide {W H : Int} {ps : List Pane} (h : cfR W H ps = true) (hw : W < 16) : cfR (W + 1) H ps = true := by
  obtain ⟨h1, h2⟩ := cfR_iff.1 h
  exact cfR_iff.2 ⟨cfOk_wide h1 hw, h2.mono (by omega) (Nat.le_refl _)⟩
theorem cfR_high {W H : Int} {ps : List Pane} (h : cfR W H ps = true) (hw : H < 16) : cfR W (H + 1) ps = true := by
  obtain ⟨h1, h2⟩ := cfR_iff.1 h
  exact cfR_iff.2 ⟨cfOk_high h1 hw, h2.mono (Nat.le_refl _) (by omega)⟩
theorem cfOk_sub {W H : Int} {ps M : List Pane} (h : cfOk W H ps = true) (hl : M.length ≤ ps.length) (hm : ∀ p ∈ M, p ∈ ps) : cfOk W H M = true := by
  obtain ⟨h1, h2, h3, h4, h5⟩ := cfOk_iff.1 h
  obtain ⟨w1, w2, w3, w4, w5, w6⟩ := workOk_iff.1 h1
  exact cfOk_iff.2 ⟨workOk_iff.2 ⟨w1, w2, w3, w4, by omega, fun p hp => w6 p (hm p hp)⟩, by omega, h3, h4, fun p hp => h5 p (hm p hp)⟩
/-- one pane is left out -/
abbrev wo (ps : List Pane) (i : Nat) : List Pane := ps.take i ++ ps.drop (i + 1)
theorem wo_perm {ps : List Pane} {i : Nat} {p : Pane} (h : ps[i]? = some p) : ps.Perm (p :: wo ps i) := by
  have e : ps = ps.take i ++ p :: ps.drop (i + 1) := by rw [← dropC h, List.take_append_drop]
  exact (List.Perm.of_eq e).trans List.perm_middle
theorem wo_mem {ps : List Pane} {i : Nat} : ∀ p ∈ wo ps i, p ∈ ps := fun p hp => by
  rcases List.mem_append.1 hp with hp | hp
  · exact List.mem_of_mem_take hp
  · exact List.mem_of_mem_drop hp
theorem wo_len {ps : List Pane} {i : Nat} : (wo ps i).length ≤ ps.length := by simp [wo]; omega
theorem cfR_wo {W H : Int} {ps : List Pane} {i : Nat} (h : cfR W H ps = true) (hi : i < ps.length) : cfR W H (wo ps i) = true := by
  obtain ⟨h1, h2⟩ := cfR_iff.1 h
  obtain ⟨p, hp⟩ := someC (l := ps) (j := i) hi
  exact cfR_iff.2 ⟨cfOk_sub h1 wo_len wo_mem, h2.less (wo_perm hp)⟩
theorem cfR_area {W H : Int} {ps : List Pane} (h : cfR W H ps = true) : arP ps ≤ W * H := by
  obtain ⟨h1, h2⟩ := cfR_iff.1 h
  obtain ⟨h1, _, _, _, _⟩ := cfOk_iff.1 h1
  obtain ⟨w1, w2, w3, w4, w5, w6⟩ := workOk_iff.1 h1
  have := h2.area fun p hp => by have := Pane.ok_iff.1 (w6 p hp); omega
  rwa [Int.toNat_of_nonneg (by omega), Int.toNat_of_nonneg (by omega)] at this
/-! ## turned -/
def trn (p : Pane) : Pane := ⟨p.H, p.W, p.Turns, p.Kind⟩
theorem trn_trn (p : Pane) : trn (trn p) = p := rfl
theorem trn_map (ps : List Pane) : (ps.map trn).map trn = ps := by
  rw [List.map_map]; exact List.map_id'' (fun p => rfl) ps
theorem trn_ok (p : Pane) : (trn p).ok = p.ok := by
  rw [Bool.eq_iff_iff, Pane.ok_iff, Pane.ok_iff]
  simp only [trn]; omega
theorem wf_trn {p : Pane} {w h : Nat} (a : wf p w h) : wf (trn p) h w := by
  unfold wf trn at *
  rcases a with a | a
  · exact .inl ⟨a.2, a.1⟩
  · exact .inr ⟨a.1, fun e => a.2.1 e.symm, a.2.2.2, a.2.2.1⟩
theorem wnum_trn {p : Pane} {w h : Int} (a : 0 < wnum p w h) : 0 < wnum (trn p) h w := by
  unfold wnum trn at *
  by_cases c1 : p.W ≤ w ∧ p.H ≤ h
  · rw [if_pos (⟨c1.2, c1.1⟩ : p.H ≤ h ∧ p.W ≤ w)]
    split <;> omega
  · rw [if_neg c1] at a
    by_cases c2 : p.Turns = true ∧ p.W ≠ p.H ∧ p.H ≤ w ∧ p.W ≤ h
    · rw [if_pos (⟨c2.1, fun e => c2.2.1 e.symm, c2.2.2.2, c2.2.2.1⟩ : p.Turns = true ∧ p.H ≠ p.W ∧ p.W ≤ h ∧ p.H ≤ w)]
      split <;> omega
    · rw [if_neg c2] at a; omega
theorem cfR_trn1 {W H : Int} {ps : List Pane} (h : cfR W H ps = true) : cfR H W (ps.map trn) = true := by
  obtain ⟨h0, hc⟩ := cfR_iff.1 h
  obtain ⟨h1, h2, h3, h4, h5⟩ := cfOk_iff.1 h0
  obtain ⟨w1, w2, w3, w4, w5, w6⟩ := workOk_iff.1 h1
  refine cfR_iff.2 ⟨cfOk_iff.2 ⟨workOk_iff.2 ⟨w3, w4, w1, w2, by simpa using w5, fun p hp => ?_⟩, by simpa using h2, h4, h3, fun p hp => ?_⟩, hc.turn fun p w h a => wf_trn a⟩
  · obtain ⟨q, hq, rfl⟩ := List.mem_map.1 hp
    rw [trn_ok]; exact w6 q hq
  · obtain ⟨q, hq, rfl⟩ := List.mem_map.1 hp
    exact wnum_trn (h5 q hq)
theorem cfR_trn {W H : Int} {ps : List Pane} : cfR H W (ps.map trn) = cfR W H ps := by
  rw [Bool.eq_iff_iff]
  exact ⟨fun h => by have := cfR_trn1 h; rwa [trn_map] at this, cfR_trn1⟩
/-! ## sheets -/
theorem fs_least {W H : Int} {ps : List Pane} (hk : cfOk W H ps = true) : ∃ m : Nat, fsR W H ps = m ∧ PartL (CanN W H) ps m ∧ ∀ j, PartL (CanN W H) ps j → m ≤ j := by
  have hone := bitS_ok hk
  have hp : 2 ^ ps.length - 1 < 2 ^ ps.length := by have := Nat.one_le_two_pow (n := ps.length); omega
  have hok : ∀ g, canB ps W.toNat H.toNat g = true ↔ CanN W H (sel ps g) := fun g => canB_iff
  have hC : ∀ {G G' : List Pane}, CanN W H G → G.Perm G' → CanN W H G' := fun c p => c.perm p
  rw [fsR, if_pos hk]
  rcases fewN_ok (canB ps W.toNat H.toNat) (2 ^ ps.length - 1) with ⟨_, h⟩ | ⟨m, e, h1, h2⟩
  · obtain ⟨k, hk⟩ := part_ex hone _ hp
    exact absurd hk (h k)
  · have := h1.toL hok hp
    rw [sel_all] at this
    exact ⟨m, e, this, fun j hj => h2 j (hj.toP hC hok _ hp (by rw [sel_all]))⟩
theorem fs_wo {W H : Int} {ps : List Pane} {i : Nat} (hk : cfOk W H ps = true) (hi : i < ps.length) : 0 ≤ fsR W H (wo ps i) ∧ fsR W H (wo ps i) ≤ fsR W H ps ∧ fsR W H ps ≤ fsR W H (wo ps i) + 1 := by
  obtain ⟨p, hp⟩ := someC (l := ps) (j := i) hi
  obtain ⟨m, e1, m1, m2⟩ := fs_least hk
  obtain ⟨k, e2, k1, k2⟩ := fs_least (cfOk_sub hk wo_len wo_mem (M := wo ps i))
  obtain ⟨h1, h2, h3, h4, h5⟩ := cfOk_iff.1 hk
  obtain ⟨w1, w2, w3, w4, w5, w6⟩ := workOk_iff.1 h1
  obtain ⟨j, j1, j2⟩ := m1.less (fun c q => c.less q) (wo_perm hp)
  have q1 := k2 j j2
  have hone : CanN W H [p] := .one (by
    rw [← wnum_iff, Int.toNat_of_nonneg (by omega), Int.toNat_of_nonneg (by omega)]
    exact h5 p (List.mem_of_getElem? hp))
  have q2 := m2 (k + 1) (.cons (G := [p]) (by simp) hone k1 (wo_perm hp).symm)
  omega
/-- all panes may be turned -/
def fre (p : Pane) : Pane := ⟨p.W, p.H, true, p.Kind⟩
theorem wf_fre {p : Pane} {w h : Nat} (a : wf p w h) : wf (fre p) w h := by
  unfold wf fre at *
  rcases a with a | a
  · exact .inl a
  · exact .inr ⟨rfl, a.2⟩
theorem wnum_fre {p : Pane} {w h : Int} (a : 0 < wnum p w h) : 0 < wnum (fre p) w h := by
  unfold wnum fre at *
  by_cases c1 : p.W ≤ w ∧ p.H ≤ h
  · rw [if_pos c1]; split <;> omega
  · rw [if_neg c1] at a
    by_cases c2 : p.Turns = true ∧ p.W ≠ p.H ∧ p.H ≤ w ∧ p.W ≤ h
    · rw [if_pos (⟨rfl, c2.2⟩ : true = true ∧ p.W ≠ p.H ∧ p.H ≤ w ∧ p.W ≤ h)]
      split <;> omega
    · rw [if_neg c2] at a; omega
theorem cfOk_fre {W H : Int} {ps : List Pane} (h : cfOk W H ps = true) : cfOk W H (ps.map fre) = true := by
  obtain ⟨h1, h2, h3, h4, h5⟩ := cfOk_iff.1 h
  obtain ⟨w1, w2, w3, w4, w5, w6⟩ := workOk_iff.1 h1
  refine cfOk_iff.2 ⟨workOk_iff.2 ⟨w1, w2, w3, w4, by simpa using w5, fun p hp => ?_⟩, by simpa using h2, h3, h4, fun p hp => ?_⟩
  · obtain ⟨q, hq, rfl⟩ := List.mem_map.1 hp
    have := Pane.ok_iff.1 (w6 q hq)
    exact Pane.ok_iff.2 this
  · obtain ⟨q, hq, rfl⟩ := List.mem_map.1 hp
    exact wnum_fre (h5 q hq)
theorem fs_fre {W H : Int} {ps : List Pane} (hk : cfOk W H ps = true) : fsR W H (ps.map fre) ≤ fsR W H ps := by
  obtain ⟨m, e1, m1, m2⟩ := fs_least hk
  obtain ⟨k, e2, k1, k2⟩ := fs_least (cfOk_fre hk)
  have := k2 m (m1.map fun c => c.map fun p w h a => wf_fre a)
  omega
theorem fs_ok {W H : Int} {ps : List Pane} (h : ¬ fsR W H ps < 0) : cfOk W H ps = true := by
  unfold fsR at h
  split at h
  · assumption
  · omega
theorem fs_b {W H : Int} {ps : List Pane} (hk : cfOk W H ps = true) : 0 ≤ fsR W H ps ∧ fsR W H ps ≤ 4 := by
  have hone := bitS_ok hk
  obtain ⟨h1, h2, h3, h4, h5⟩ := cfOk_iff.1 hk
  have hp : 2 ^ ps.length - 1 < 2 ^ ps.length := by have := Nat.one_le_two_pow (n := ps.length); omega
  have hb := (fewN_ok (canB ps W.toNat H.toNat) (2 ^ ps.length - 1)).bound hp
  obtain ⟨m, e, _, _⟩ := fs_least hk
  have e2 : fsR W H ps = fewN (canB ps W.toNat H.toNat) (2 ^ ps.length - 1) := if_pos hk
  omega
end Go.Proofs.Ytkojheinklgdeaa
