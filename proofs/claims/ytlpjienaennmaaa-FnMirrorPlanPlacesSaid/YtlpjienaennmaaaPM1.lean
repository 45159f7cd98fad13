/-
  Plans with left and right exchanged, plainly.
-/
import Derived.Test.YtlpjienaennmaaaPL5
namespace Go.Proofs.Ytlpjienaennmaaa
open Go
set_option maxRecDepth 20000
set_option maxHeartbeats 1000000

/-- left and right exchanged in glass of w and h -/
def BT.mir : BT → Int → Int → BT
  | .w, _, _ => .w
  | .p i t, _, _ => .p i t
  | .c true a l r, gw, gh => .c true (gw - a) (r.mir (gw - a) gh) (l.mir a gh)
  | .c false a l r, gw, gh => .c false a (l.mir gw a) (r.mir gw (gh - a))
theorem BT.mir_sz : ∀ (b : BT) (gw gh : Int), (b.mir gw gh).sz = b.sz
  | .w, _, _ => rfl
  | .p _ _, _, _ => rfl
  | .c true a l r, gw, gh => by
    simp only [BT.mir, BT.sz, BT.mir_sz l, BT.mir_sz r]; omega
  | .c false a l r, gw, gh => by
    simp only [BT.mir, BT.sz, BT.mir_sz l, BT.mir_sz r]
theorem BT.mir_fits {ps : List Pane} : ∀ (b : BT) (gw gh : Int), b.fits ps gw gh = true → (b.mir gw gh).fits ps gw gh = true
  | .w, _, _, _ => rfl
  | .p _ _, _, _, hf => hf
  | .c true a l r, gw, gh, hf => by
    obtain ⟨h1, h2, h3, h4⟩ := (fits_c hf).1 rfl
    have e1 := BT.mir_fits l _ _ h3
    have e2 := BT.mir_fits r _ _ h4
    simp only [BT.mir, BT.fits, if_true, Bool.and_eq_true, decide_eq_true_eq]
    exact ⟨by omega, by omega, e2, by rw [show gw - (gw - a) = a by omega]; exact e1⟩
  | .c false a l r, gw, gh, hf => by
    obtain ⟨h1, h2, h3, h4⟩ := (fits_c hf).2 rfl
    have e1 := BT.mir_fits l _ _ h3
    have e2 := BT.mir_fits r _ _ h4
    simp only [BT.mir, BT.fits, Bool.and_eq_true, decide_eq_true_eq, Bool.false_eq_true, if_false]
    exact ⟨by omega, by omega, e1, e2⟩
/-- a box with left and right exchanged in glass of width K -/
def mirB (K : Int) (b : Box) : Box := ⟨K - b.X - b.W, b.Y, b.W, b.H⟩
theorem mir_plcs : ∀ (b : BT) (K : Int) (g : Box), ∀ x ∈ (b.mir g.W g.H).plcs (mirB K g), ∃ y ∈ b.plcs g, x.b = mirB K y.b
  | .w, _, _, _, hx => by simp [BT.mir, BT.plcs] at hx
  | .p i t, K, g, x, hx => by
    simp only [BT.mir, BT.plcs, List.mem_singleton] at hx ⊢
    subst hx
    exact ⟨_, rfl, rfl⟩
  | .c true a l r, K, g, x, hx => by
    simp only [BT.mir, BT.plcs, List.mem_append] at hx
    have e1 : bxL true (g.W - a) (mirB K g) = mirB K (bxR true a g) := by simp [bxL, bxR, mirB]; omega
    have e2 : bxR true (g.W - a) (mirB K g) = mirB K (bxL true a g) := by simp [bxL, bxR, mirB]; omega
    rw [e1, e2] at hx
    rcases hx with hx | hx
    · obtain ⟨y, h1, h2⟩ := mir_plcs r K (bxR true a g) x hx
      exact ⟨y, List.mem_append_right _ h1, h2⟩
    · obtain ⟨y, h1, h2⟩ := mir_plcs l K (bxL true a g) x hx
      exact ⟨y, List.mem_append_left _ h1, h2⟩
  | .c false a l r, K, g, x, hx => by
    simp only [BT.mir, BT.plcs, List.mem_append] at hx
    have e1 : bxL false a (mirB K g) = mirB K (bxL false a g) := by simp [bxL, mirB]
    have e2 : bxR false a (mirB K g) = mirB K (bxR false a g) := by simp [bxR, mirB]
    rw [e1, e2] at hx
    rcases hx with hx | hx
    · obtain ⟨y, h1, h2⟩ := mir_plcs l K (bxL false a g) x hx
      exact ⟨y, List.mem_append_left _ h1, h2⟩
    · obtain ⟨y, h1, h2⟩ := mir_plcs r K (bxR false a g) x hx
      exact ⟨y, List.mem_append_right _ h1, h2⟩
theorem plcs_n : ∀ (b : BT) (g g2 : Box), (b.plcs g).length = (b.plcs g2).length
  | .w, _, _ => rfl
  | .p _ _, _, _ => rfl
  | .c d a l r, g, g2 => by
    rw [BT.plcs, BT.plcs, List.length_append, List.length_append, plcs_n l _ (bxL d a g2), plcs_n r _ (bxR d a g2)]
theorem mir_n : ∀ (b : BT) (w h : Int) (g g2 : Box), ((b.mir w h).plcs g).length = (b.plcs g2).length
  | .w, _, _, _, _ => rfl
  | .p _ _, _, _, _, _ => rfl
  | .c true a l r, w, h, g, g2 => by
    simp only [BT.mir, BT.plcs, List.length_append]
    rw [mir_n r _ _ _ (bxR true a g2), mir_n l _ _ _ (bxL true a g2)]; omega
  | .c false a l r, w, h, g, g2 => by
    simp only [BT.mir, BT.plcs, List.length_append]
    rw [mir_n r _ _ _ (bxR false a g2), mir_n l _ _ _ (bxL false a g2)]
def mirP (W H : Int) (ps : List Pane) (q : Plan) : BT := if vpOk W H ps q = true then (toBT q).mir W H else .w
theorem mirP_F {W H : Int} {ps : List Pane} {q : Plan} (h : vpOk W H ps q = false) : mirP W H ps q = .w := if_neg (by rw [h]; simp)
theorem mirP_T {W H : Int} {ps : List Pane} {q : Plan} (h : vpOk W H ps q = true) : mirP W H ps q = (toBT q).mir W H := if_pos h
theorem mirP_vp {W H : Int} {ps : List Pane} {q : Plan} (h : vpOk W H ps q = true) : vpOk W H ps (mirP W H ps q).plan = true := by
  obtain ⟨hw, hg, hf, hz, hs, he⟩ := vp_facts h
  rw [mirP_T h]
  simp only [vpOk, Bool.and_eq_true, decide_eq_true_eq] at h ⊢
  refine ⟨h.1, ?_, ?_⟩
  · rw [psz_BT, BT.mir_sz, if_pos hs]
    have := (toBT q).sz_pos
    omega
  · rw [toBT_plan]; exact BT.mir_fits _ _ _ hf
/-- boxes of the places of the plan turned round -/
theorem mirP_pl {W H : Int} {ps : List Pane} {q : Plan} (h : vpOk W H ps q = true) : ((plP W H ps (mirP W H ps q).plan).length = (plP W H ps q).length) ∧ ∀ x ∈ plP W H ps (mirP W H ps q).plan, ∃ y ∈ plP W H ps q, x.b = mirB W y.b := by
  have h2 := mirP_vp h
  have e1 : plP W H ps (mirP W H ps q).plan = ((toBT q).mir W H).plcs (shB W H) := by
    rw [plP, if_pos h2, toBT_plan, mirP_T h]
  have e2 : plP W H ps q = (toBT q).plcs (shB W H) := if_pos h
  rw [e1, e2]
  refine ⟨mir_n _ _ _ _ _, fun x hx => ?_⟩
  have e : shB W H = mirB W (shB W H) := by simp [mirB]
  rw [e] at hx
  exact mir_plcs (toBT q) W (shB W H) x hx
end Go.Proofs.Ytlpjienaennmaaa
