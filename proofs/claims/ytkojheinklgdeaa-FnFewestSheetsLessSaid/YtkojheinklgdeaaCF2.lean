/-
  Contracts: tables of sets of panes that are cut from glass.
-/
import Derived.Test.YtkojheinklgdeaaCF1
namespace Go.Proofs.Ytkojheinklgdeaa
open Go
set_option maxRecDepth 20000
set_option maxHeartbeats 1000000

/-- two parts of a set on two parts of glass -/
def Cut2 (ps : List Pane) (s w h : Nat) : Prop := ∃ g, Sub g s ∧ 0 < g ∧ g < s ∧ Two ps s w h g
theorem cut2_can {ps : List Pane} {s w h : Nat} (hs : s < 2 ^ ps.length) (h1 : s ≠ 0) (h2 : ∀ i, i < ps.length → s ≠ 2 ^ i) : Cut2 ps s w h ↔ Can (sel ps s) w h :=
  ⟨fun ⟨_, a, b, c, d⟩ => d.can hs a b c, fun c => c.two hs h1 h2⟩
/-- an array of all sets, up to s, is right -/
def T1 (ps : List Pane) (W H s : Nat) (L : List Bool) : Prop := L.length = 4624 ∧ ∀ t a b, t < s → 1 ≤ a → a ≤ W → 1 ≤ b → b ≤ H → L[(t * 17 + a) * 17 + b]? = some (canB ps a b t)
/-- the part of one set, up to w, h, has values F -/
def T2 (W H s w h : Nat) (F : Nat → Nat → Bool) (L : List Bool) : Prop := ∀ a b, 1 ≤ a → a ≤ W → 1 ≤ b → b ≤ H → (a < w ∨ (a = w ∧ b < h)) → L[(s * 17 + a) * 17 + b]? = some (F a b)
theorem T1.set {ps : List Pane} {W H s w h : Nat} {L : List Bool} {v : Bool} (t : T1 ps W H s L) (hb : W ≤ 16 ∧ H ≤ 16) (hw : w ≤ 16 ∧ h ≤ 16) : T1 ps W H s (L.set ((s * 17 + w) * 17 + h) v) := by
  refine ⟨by rw [List.length_set]; exact t.1, fun x a b h1 h2 h3 h4 h5 => ?_⟩
  rw [List.getElem?_set_ne (by omega)]
  exact t.2 x a b h1 h2 h3 h4 h5
theorem T2.set {W H s w h : Nat} {F : Nat → Nat → Bool} {L : List Bool} {v : Bool} (t : T2 W H s w h F L) (hb : W ≤ 16 ∧ H ≤ 16) (hw : w ≤ 16 ∧ h ≤ 16) (hl : (s * 17 + w) * 17 + h < L.length) (hv : v = F w h) : T2 W H s w (h + 1) F (L.set ((s * 17 + w) * 17 + h) v) := fun a b h1 h2 h3 h4 h5 => by
  by_cases e : a = w ∧ b = h
  · obtain ⟨rfl, rfl⟩ := e
    rw [List.getElem?_set_self hl, hv]
  · rw [List.getElem?_set_ne (by omega)]
    exact t a b h1 h2 h3 h4 (by omega)
theorem T2.row {W H s w : Nat} {F : Nat → Nat → Bool} {L : List Bool} (t : T2 W H s w (H + 1) F L) : T2 W H s (w + 1) 1 F L := fun a b h1 h2 h3 h4 h5 => t a b h1 h2 h3 h4 (by omega)
theorem T2.init {W H s : Nat} {F : Nat → Nat → Bool} {L : List Bool} : T2 W H s 1 1 F L := fun a b h1 h2 h3 h4 h5 => by omega
theorem T1.next {ps : List Pane} {W H s : Nat} {L : List Bool} (t : T1 ps W H s L) (u : T2 W H s (W + 1) 1 (fun a b => canB ps a b s) L) : T1 ps W H (s + 1) L := ⟨t.1, fun x a b h1 h2 h3 h4 h5 => by
  by_cases e : x = s
  · subst e; exact u a b h2 h3 h4 h5 (by omega)
  · exact t.2 x a b (by omega) h2 h3 h4 h5⟩
theorem T2.cong {W H s w h : Nat} {F G : Nat → Nat → Bool} {L : List Bool} (t : T2 W H s w h F L) (e : ∀ a b, F a b = G a b) : T2 W H s w h G L := fun a b h1 h2 h3 h4 h5 => by rw [← e]; exact t a b h1 h2 h3 h4 h5
theorem partsInto_ok {A : Amb} {b s w h W H : Nat} {L : List Bool} {ps : List Pane} (hr : RdM (fun u : Bool => .bool u) A.h b L) (hT : T1 ps W H s L) (hs : 0 < s) (hs2 : s < 16) (hw : w ≤ W) (hh : h ≤ H) (hW : W ≤ 16) (hH : H ≤ 16) (hw1 : 1 ≤ w) (hh1 : 1 ≤ h) :
    Ctr Try.prog 91 #[.pointer (some ⟨b, 0, none⟩), vI s, vI w, vI h] A [] (Val (.bool (dB (Cut2 ps s w h)))) := by
  obtain ⟨hTl, hT⟩ := hT
  refine Ctr.body (args := [_, _, _, _]) Try.func91 rfl Try.ntmps91 Try.results91 (by simp) ?_
  refine CJ.seq ?_
  refine CJ.region ?_
  refine LJ.yd rfl (Yd.asB rfl) ?_
  refine LJ.nil ?_
  refine CJ.seq ?_
  refine CJ.seq ?_
  refine CJ.region ?_
  refine LJ.yd rfl (Yd.mvI rfl) ?_
  refine LJ.yd rfl (Yd.sub rfl rfl (by unfold I64; omega)) ?_
  refine LJ.yd rfl (Yd.mvI rfl) ?_
  refine LJ.yd rfl (Yd.andN (congrArg vI (show ((s : Int) - 1) = ((s - 1 : Nat) : Int) by omega)) rfl (by omega) (by omega)) ?_
  refine LJ.yd rfl (Yd.asI rfl) ?_
  refine LJ.nil ?_
  refine CJ.block ?_
  have hinit : Sub ((s - 1) &&& s) s ∧ (s - 1) &&& s < s ∧ ∀ x, Sub x s → 0 < x → x < s → (s - 1) &&& s < x → ¬ Two ps s w h x := by
    obtain ⟨q1, q2, q3⟩ := sub_next s s (Sub.refl s) hs
    exact ⟨q1, q2, fun x x1 x2 x3 x4 => by have := q3 x x1 x3; omega⟩
  refine CJ.loopK [0, 1, 2, 3] Nat (fun g => Sub g s ∧ g < s ∧ ∀ x, Sub x s → 0 < x → x < s → g < x → ¬ Two ps s w h x) (fun g => [(9, vI g)]) (fun g => g) ((s - 1) &&& s) ?_ ⟨rfl, trivial⟩ ?_
  · exact hinit
  · rintro g σ ⟨hsub, hgs, hno⟩
    refine CJ.seq ?_
    refine CJ.seq ?_
    refine CJ.region ?_
    refine LJ.yd rfl (Yd.mvI rfl) ?_
    refine LJ.splitD rfl (Yd.gtr rfl rfl) (fun h18 => ?_) (fun h18 => ?_)
    · refine LJ.nil ?_
      refine CJ.condT rfl ?_
      refine CJ.skip ?_
      refine CJ.seq ?_
      refine CJ.block ?_
      refine CJ.seq ?_
      refine CJ.region ?_
      refine LJ.yd rfl (Yd.mvI rfl) ?_
      refine LJ.yd rfl (Yd.mvI rfl) ?_
      refine LJ.yd rfl (Yd.andNotN rfl rfl (by omega) hsub) ?_
      refine LJ.yd rfl (Yd.asI rfl) ?_
      refine LJ.nil ?_
      refine CJ.seq ?_
      refine CJ.seq ?_
      refine CJ.region ?_
      refine LJ.yd rfl (Yd.asI rfl) ?_
      refine LJ.nil ?_
      refine CJ.block ?_
      refine CJ.loopK [0, 1, 2, 3, 9, 10, 17, 18, 23, 24, 25] Nat (fun x => x ≤ w ∧ 1 ≤ x ∧ ∀ z, 0 < z → z < x → ¬ (Can (sel ps g) z h ∧ Can (sel ps (s - g)) (w - z) h)) (fun x => [(11, vI x)]) (fun x => w - x) (1) ?_ ⟨rfl, trivial⟩ ?_
      · exact ⟨by omega, by omega, fun z z1 z2 => by omega⟩
      · rintro x σ ⟨hx5, hx6, hnx⟩
        refine CJ.seq ?_
        refine CJ.seq ?_
        refine CJ.region ?_
        refine LJ.yd rfl (Yd.mvI rfl) ?_
        refine LJ.yd rfl (Yd.mvI rfl) ?_
        refine LJ.splitD rfl (Yd.lss rfl rfl) (fun h28 => ?_) (fun h28 => ?_)
        · refine LJ.nil ?_
          refine CJ.condT rfl ?_
          refine CJ.skip ?_
          refine CJ.seq ?_
          refine CJ.block ?_
          refine CJ.seq ?_
          refine CJ.region ?_
          refine LJ.yd rfl (Yd.mvP rfl) ?_
          refine LJ.yd rfl (Yd.mvI rfl) ?_
          refine LJ.yd rfl (Yd.mvI rfl) ?_
          refine LJ.yd rfl (Yd.mvI rfl) ?_
          refine LJ.yd rfl (Yd.nilCheck rfl) ?_
          refine LJ.yd rfl (Yd.idxArr rfl rfl (by omega) (by omega)) ?_
          refine LJ.yd rfl (Yd.idxArr rfl rfl (by omega) (by omega)) ?_
          refine LJ.yd rfl (Yd.idxArr rfl rfl (by omega) (by omega)) ?_
          refine LJ.ldMAB (j := (g * 17 + x) * 17 + h) (F := fun u => u) hr rfl (by omega) rfl (by first | rfl | omega | (simp; done) | (simp; omega) | (simp [upN_len]; omega) | (simp [idxBy_len]; omega) | (simp [marks_len]; omega) | (simp [upN_len]; done) | (simp [idxBy_len]; done) | (simp [marks_len]; done) | (simp at *; omega)) (fun u39 hu39 h39 => ?_) (fun u39 hu39 h39 => ?_)
          · try simp only [Int.toNat_natCast] at hu39
            have e39 : u39 = canB ps x h g := by have := hT g x h (by omega) (by omega) (by omega) (by omega) (by omega); rw [hu39] at this; exact Option.some.inj this
            rw [e39] at h39
            refine LJ.yd rfl (Yd.mvB rfl) ?_
            refine LJ.gT rfl ?_
            refine LJ.yd rfl (Yd.mvP rfl) ?_
            refine LJ.gT rfl ?_
            refine LJ.yd rfl (Yd.mvI rfl) ?_
            refine LJ.gT rfl ?_
            refine LJ.yd rfl (Yd.mvI rfl) ?_
            refine LJ.gT rfl ?_
            refine LJ.yd rfl (Yd.mvI rfl) ?_
            refine LJ.gT rfl ?_
            refine LJ.yd rfl (Yd.sub rfl rfl (by unfold I64; omega)) ?_
            refine LJ.gT rfl ?_
            refine LJ.yd rfl (Yd.mvI rfl) ?_
            refine LJ.gT rfl ?_
            refine LJ.yd rfl (Yd.nilCheck rfl) ?_
            refine LJ.gT rfl ?_
            refine LJ.yd rfl (Yd.idxArr rfl rfl (by omega) (by omega)) ?_
            refine LJ.gT rfl ?_
            refine LJ.yd rfl (Yd.idxArr rfl rfl (by omega) (by omega)) ?_
            refine LJ.gT rfl ?_
            refine LJ.yd rfl (Yd.idxArr rfl rfl (by omega) (by omega)) ?_
            refine LJ.gT rfl ?_
            refine LJ.ldMAB (j := ((s - g) * 17 + (w - x)) * 17 + h) (F := fun u => u) hr rfl (by omega) rfl (by first | rfl | omega | (simp; done) | (simp; omega) | (simp [upN_len]; omega) | (simp [idxBy_len]; omega) | (simp [marks_len]; omega) | (simp [upN_len]; done) | (simp [idxBy_len]; done) | (simp [marks_len]; done) | (simp at *; omega)) (fun u51 hu51 h51 => ?_) (fun u51 hu51 h51 => ?_)
            · try simp only [Int.toNat_natCast] at hu51
              have e51 : u51 = canB ps (w - x) h (s - g) := by have := hT (s - g) (w - x) h (by omega) (by omega) (by omega) (by omega) (by omega); rw [hu51] at this; exact Option.some.inj this
              rw [e51] at h51
              refine LJ.yd rfl (Yd.pickTB rfl rfl) ?_
              refine LJ.nil ?_
              refine CJ.condT rfl ?_
              refine CJ.seq ?_
              refine CJ.region ?_
              refine LJ.yd rfl (Yd.asB rfl) ?_
              refine LJ.nil ?_
              refine CJ.ret ?_
              refine Fin.V (Res.one (ResV.tmp (v := .bool true) rfl)) ?_
              refine congrArg Value.bool (Eq.symm ?_)
              first
                | exact dB_T ⟨g, hsub, by omega, hgs, .inl ⟨x, by omega, by omega, canB_iff.1 h39, canB_iff.1 h51⟩⟩
                | exact dB_T ⟨g, hsub, by omega, hgs, .inr ⟨y, by omega, by omega, canB_iff.1 h66, canB_iff.1 h78⟩⟩
                | exact dB_F fun ⟨x, x1, x2, x3, x4⟩ => hno x x1 x2 x3 (by omega) x4
            · try simp only [Int.toNat_natCast] at hu51
              have e51 : u51 = canB ps (w - x) h (s - g) := by have := hT (s - g) (w - x) h (by omega) (by omega) (by omega) (by omega) (by omega); rw [hu51] at this; exact Option.some.inj this
              rw [e51] at h51
              refine LJ.yd rfl (Yd.pickTB rfl rfl) ?_
              refine LJ.nil ?_
              refine CJ.condF rfl ?_
              refine CJ.skip ?_
              refine CJ.region ?_
              refine LJ.yd rfl (Yd.mvI rfl) ?_
              refine LJ.yd rfl (Yd.add rfl rfl (by unfold I64; omega)) ?_
              refine LJ.yd rfl (Yd.asI rfl) ?_
              refine LJ.nil ?_
              refine ⟨(x + 1), ?_, ⟨rfl, rfl, rfl, rfl, rfl, rfl, rfl, rfl, rfl, rfl, rfl, trivial⟩, ⟨rfl, trivial⟩, Ent.refl _, ?_⟩
              · refine ⟨by omega, ?_⟩
                refine ⟨by omega, fun z z1 z2 => ?_⟩
                by_cases e : z = x
                · subst e
                  rintro ⟨c1, c2⟩
                  first
                    | (rw [canB_iff.2 c1] at h39; cases h39; done)
                    | (rw [canB_iff.2 c2] at h51; cases h51; done)
                · exact hnx z z1 (by omega)
              · first | omega | (dsimp only; omega) | (simp only []; omega)
          · try simp only [Int.toNat_natCast] at hu39
            have e39 : u39 = canB ps x h g := by have := hT g x h (by omega) (by omega) (by omega) (by omega) (by omega); rw [hu39] at this; exact Option.some.inj this
            rw [e39] at h39
            refine LJ.yd rfl (Yd.mvB rfl) ?_
            refine LJ.gF rfl rfl ?_
            refine LJ.gF rfl rfl ?_
            refine LJ.gF rfl rfl ?_
            refine LJ.gF rfl rfl ?_
            refine LJ.gF rfl rfl ?_
            refine LJ.gF rfl rfl ?_
            refine LJ.gF rfl rfl ?_
            refine LJ.gF rfl rfl ?_
            refine LJ.gF rfl rfl ?_
            refine LJ.gF rfl rfl ?_
            refine LJ.gF rfl rfl ?_
            refine LJ.yd rfl (Yd.pickFB rfl rfl) ?_
            refine LJ.nil ?_
            refine CJ.condF rfl ?_
            refine CJ.skip ?_
            refine CJ.region ?_
            refine LJ.yd rfl (Yd.mvI rfl) ?_
            refine LJ.yd rfl (Yd.add rfl rfl (by unfold I64; omega)) ?_
            refine LJ.yd rfl (Yd.asI rfl) ?_
            refine LJ.nil ?_
            refine ⟨(x + 1), ?_, ⟨rfl, rfl, rfl, rfl, rfl, rfl, rfl, rfl, rfl, rfl, rfl, trivial⟩, ⟨rfl, trivial⟩, Ent.refl _, ?_⟩
            · refine ⟨by omega, ?_⟩
              refine ⟨by omega, fun z z1 z2 => ?_⟩
              by_cases e : z = x
              · subst e
                rintro ⟨c1, c2⟩
                first
                  | (rw [canB_iff.2 c1] at h39; cases h39; done)
                  | (rw [canB_iff.2 c2] at h51; cases h51; done)
              · exact hnx z z1 (by omega)
            · first | omega | (dsimp only; omega) | (simp only []; omega)
        · refine LJ.nil ?_
          refine CJ.condF rfl ?_
          refine CJ.exit ?_
          refine CJ.seq ?_
          refine CJ.region ?_
          refine LJ.yd rfl (Yd.asI rfl) ?_
          refine LJ.nil ?_
          refine CJ.block ?_
          refine CJ.loopK [0, 1, 2, 3, 9, 10, 11, 17, 18, 23, 24, 25, 26, 27, 28] Nat (fun y => y ≤ h ∧ 1 ≤ y ∧ ∀ z, 0 < z → z < y → ¬ (Can (sel ps g) w z ∧ Can (sel ps (s - g)) w (h - z))) (fun y => [(12, vI y)]) (fun y => h - y) (1) ?_ ⟨rfl, trivial⟩ ?_
          · exact ⟨by omega, by omega, fun z z1 z2 => by omega⟩
          · rintro y σ ⟨hy5, hy6, hny⟩
            refine CJ.seq ?_
            refine CJ.seq ?_
            refine CJ.region ?_
            refine LJ.yd rfl (Yd.mvI rfl) ?_
            refine LJ.yd rfl (Yd.mvI rfl) ?_
            refine LJ.splitD rfl (Yd.lss rfl rfl) (fun h55 => ?_) (fun h55 => ?_)
            · refine LJ.nil ?_
              refine CJ.condT rfl ?_
              refine CJ.skip ?_
              refine CJ.seq ?_
              refine CJ.block ?_
              refine CJ.seq ?_
              refine CJ.region ?_
              refine LJ.yd rfl (Yd.mvP rfl) ?_
              refine LJ.yd rfl (Yd.mvI rfl) ?_
              refine LJ.yd rfl (Yd.mvI rfl) ?_
              refine LJ.yd rfl (Yd.mvI rfl) ?_
              refine LJ.yd rfl (Yd.nilCheck rfl) ?_
              refine LJ.yd rfl (Yd.idxArr rfl rfl (by omega) (by omega)) ?_
              refine LJ.yd rfl (Yd.idxArr rfl rfl (by omega) (by omega)) ?_
              refine LJ.yd rfl (Yd.idxArr rfl rfl (by omega) (by omega)) ?_
              refine LJ.ldMAB (j := (g * 17 + w) * 17 + y) (F := fun u => u) hr rfl (by omega) rfl (by first | rfl | omega | (simp; done) | (simp; omega) | (simp [upN_len]; omega) | (simp [idxBy_len]; omega) | (simp [marks_len]; omega) | (simp [upN_len]; done) | (simp [idxBy_len]; done) | (simp [marks_len]; done) | (simp at *; omega)) (fun u66 hu66 h66 => ?_) (fun u66 hu66 h66 => ?_)
              · try simp only [Int.toNat_natCast] at hu66
                have e66 : u66 = canB ps w y g := by have := hT g w y (by omega) (by omega) (by omega) (by omega) (by omega); rw [hu66] at this; exact Option.some.inj this
                rw [e66] at h66
                refine LJ.yd rfl (Yd.mvB rfl) ?_
                refine LJ.gT rfl ?_
                refine LJ.yd rfl (Yd.mvP rfl) ?_
                refine LJ.gT rfl ?_
                refine LJ.yd rfl (Yd.mvI rfl) ?_
                refine LJ.gT rfl ?_
                refine LJ.yd rfl (Yd.mvI rfl) ?_
                refine LJ.gT rfl ?_
                refine LJ.yd rfl (Yd.mvI rfl) ?_
                refine LJ.gT rfl ?_
                refine LJ.yd rfl (Yd.mvI rfl) ?_
                refine LJ.gT rfl ?_
                refine LJ.yd rfl (Yd.sub rfl rfl (by unfold I64; omega)) ?_
                refine LJ.gT rfl ?_
                refine LJ.yd rfl (Yd.nilCheck rfl) ?_
                refine LJ.gT rfl ?_
                refine LJ.yd rfl (Yd.idxArr rfl rfl (by omega) (by omega)) ?_
                refine LJ.gT rfl ?_
                refine LJ.yd rfl (Yd.idxArr rfl rfl (by omega) (by omega)) ?_
                refine LJ.gT rfl ?_
                refine LJ.yd rfl (Yd.idxArr rfl rfl (by omega) (by omega)) ?_
                refine LJ.gT rfl ?_
                refine LJ.ldMAB (j := ((s - g) * 17 + w) * 17 + (h - y)) (F := fun u => u) hr rfl (by omega) rfl (by first | rfl | omega | (simp; done) | (simp; omega) | (simp [upN_len]; omega) | (simp [idxBy_len]; omega) | (simp [marks_len]; omega) | (simp [upN_len]; done) | (simp [idxBy_len]; done) | (simp [marks_len]; done) | (simp at *; omega)) (fun u78 hu78 h78 => ?_) (fun u78 hu78 h78 => ?_)
                · try simp only [Int.toNat_natCast] at hu78
                  have e78 : u78 = canB ps w (h - y) (s - g) := by have := hT (s - g) w (h - y) (by omega) (by omega) (by omega) (by omega) (by omega); rw [hu78] at this; exact Option.some.inj this
                  rw [e78] at h78
                  refine LJ.yd rfl (Yd.pickTB rfl rfl) ?_
                  refine LJ.nil ?_
                  refine CJ.condT rfl ?_
                  refine CJ.seq ?_
                  refine CJ.region ?_
                  refine LJ.yd rfl (Yd.asB rfl) ?_
                  refine LJ.nil ?_
                  refine CJ.ret ?_
                  refine Fin.V (Res.one (ResV.tmp (v := .bool true) rfl)) ?_
                  refine congrArg Value.bool (Eq.symm ?_)
                  first
                    | exact dB_T ⟨g, hsub, by omega, hgs, .inl ⟨x, by omega, by omega, canB_iff.1 h39, canB_iff.1 h51⟩⟩
                    | exact dB_T ⟨g, hsub, by omega, hgs, .inr ⟨y, by omega, by omega, canB_iff.1 h66, canB_iff.1 h78⟩⟩
                    | exact dB_F fun ⟨x, x1, x2, x3, x4⟩ => hno x x1 x2 x3 (by omega) x4
                · try simp only [Int.toNat_natCast] at hu78
                  have e78 : u78 = canB ps w (h - y) (s - g) := by have := hT (s - g) w (h - y) (by omega) (by omega) (by omega) (by omega) (by omega); rw [hu78] at this; exact Option.some.inj this
                  rw [e78] at h78
                  refine LJ.yd rfl (Yd.pickTB rfl rfl) ?_
                  refine LJ.nil ?_
                  refine CJ.condF rfl ?_
                  refine CJ.skip ?_
                  refine CJ.region ?_
                  refine LJ.yd rfl (Yd.mvI rfl) ?_
                  refine LJ.yd rfl (Yd.add rfl rfl (by unfold I64; omega)) ?_
                  refine LJ.yd rfl (Yd.asI rfl) ?_
                  refine LJ.nil ?_
                  refine ⟨(y + 1), ?_, ⟨rfl, rfl, rfl, rfl, rfl, rfl, rfl, rfl, rfl, rfl, rfl, rfl, rfl, rfl, rfl, trivial⟩, ⟨rfl, trivial⟩, Ent.refl _, ?_⟩
                  · refine ⟨by omega, ?_⟩
                    refine ⟨by omega, fun z z1 z2 => ?_⟩
                    by_cases e : z = y
                    · subst e
                      rintro ⟨c1, c2⟩
                      first
                        | (rw [canB_iff.2 c1] at h66; cases h66; done)
                        | (rw [canB_iff.2 c2] at h78; cases h78; done)
                    · exact hny z z1 (by omega)
                  · first | omega | (dsimp only; omega) | (simp only []; omega)
              · try simp only [Int.toNat_natCast] at hu66
                have e66 : u66 = canB ps w y g := by have := hT g w y (by omega) (by omega) (by omega) (by omega) (by omega); rw [hu66] at this; exact Option.some.inj this
                rw [e66] at h66
                refine LJ.yd rfl (Yd.mvB rfl) ?_
                refine LJ.gF rfl rfl ?_
                refine LJ.gF rfl rfl ?_
                refine LJ.gF rfl rfl ?_
                refine LJ.gF rfl rfl ?_
                refine LJ.gF rfl rfl ?_
                refine LJ.gF rfl rfl ?_
                refine LJ.gF rfl rfl ?_
                refine LJ.gF rfl rfl ?_
                refine LJ.gF rfl rfl ?_
                refine LJ.gF rfl rfl ?_
                refine LJ.gF rfl rfl ?_
                refine LJ.yd rfl (Yd.pickFB rfl rfl) ?_
                refine LJ.nil ?_
                refine CJ.condF rfl ?_
                refine CJ.skip ?_
                refine CJ.region ?_
                refine LJ.yd rfl (Yd.mvI rfl) ?_
                refine LJ.yd rfl (Yd.add rfl rfl (by unfold I64; omega)) ?_
                refine LJ.yd rfl (Yd.asI rfl) ?_
                refine LJ.nil ?_
                refine ⟨(y + 1), ?_, ⟨rfl, rfl, rfl, rfl, rfl, rfl, rfl, rfl, rfl, rfl, rfl, rfl, rfl, rfl, rfl, trivial⟩, ⟨rfl, trivial⟩, Ent.refl _, ?_⟩
                · refine ⟨by omega, ?_⟩
                  refine ⟨by omega, fun z z1 z2 => ?_⟩
                  by_cases e : z = y
                  · subst e
                    rintro ⟨c1, c2⟩
                    first
                      | (rw [canB_iff.2 c1] at h66; cases h66; done)
                      | (rw [canB_iff.2 c2] at h78; cases h78; done)
                  · exact hny z z1 (by omega)
                · first | omega | (dsimp only; omega) | (simp only []; omega)
            · refine LJ.nil ?_
              refine CJ.condF rfl ?_
              refine CJ.exit ?_
              refine CJ.region ?_
              refine LJ.yd rfl (Yd.mvI rfl) ?_
              refine LJ.yd rfl (Yd.sub rfl rfl (by unfold I64; omega)) ?_
              refine LJ.yd rfl (Yd.mvI rfl) ?_
              refine LJ.yd rfl (Yd.andN (congrArg vI (show ((g : Int) - 1) = ((g - 1 : Nat) : Int) by omega)) rfl (by omega) (by omega)) ?_
              refine LJ.yd rfl (Yd.asI rfl) ?_
              refine LJ.nil ?_
              refine ⟨((g - 1) &&& s), ?_, ⟨rfl, rfl, rfl, rfl, trivial⟩, ⟨rfl, trivial⟩, Ent.refl _, ?_⟩
              · obtain ⟨q1, q2, q3⟩ := sub_next s g hsub (by omega)
                refine ⟨q1, by omega, fun x x1 x2 x3 x4 => ?_⟩
                rcases Nat.lt_or_ge g x with q | q
                · exact hno x x1 x2 x3 q
                · obtain rfl : x = g := by
                    rcases Nat.lt_or_ge x g with q5 | q5
                    · have := q3 x x1 q5; omega
                    · omega
                  rintro (⟨z, z1, z2, z3, z4⟩ | ⟨z, z1, z2, z3, z4⟩)
                  · exact hnx z z1 (by omega) ⟨z3, z4⟩
                  · exact hny z z1 (by omega) ⟨z3, z4⟩
              · obtain ⟨q1, q2, q3⟩ := sub_next s g hsub (by omega)
                exact q2
    · refine LJ.nil ?_
      refine CJ.condF rfl ?_
      refine CJ.exit ?_
      refine CJ.seq ?_
      refine CJ.region ?_
      refine LJ.yd rfl (Yd.asB rfl) ?_
      refine LJ.nil ?_
      refine CJ.ret ?_
      refine Fin.V (Res.one (ResV.tmp (v := .bool false) rfl)) ?_
      refine congrArg Value.bool (Eq.symm ?_)
      first
        | exact dB_T ⟨g, hsub, by omega, hgs, .inl ⟨x, by omega, by omega, canB_iff.1 h39, canB_iff.1 h51⟩⟩
        | exact dB_T ⟨g, hsub, by omega, hgs, .inr ⟨y, by omega, by omega, canB_iff.1 h66, canB_iff.1 h78⟩⟩
        | exact dB_F fun ⟨x, x1, x2, x3, x4⟩ => hno x x1 x2 x3 (by omega) x4
theorem sel_nat {ps : List Pane} {i : Nat} {p : Pane} {w h : Nat} (hp : ps[i]? = some p) : decide (0 < wnum p w h) = canB ps w h (2 ^ i) := by
  rw [Bool.eq_iff_iff, decide_eq_true_eq, wnum_iff, canB_one hp]
noncomputable def pvB (ps : List Pane) (s a b : Nat) : Bool := dB (s = 0 ∨ Cut2 ps s a b)
theorem pv_can {ps : List Pane} {s a b : Nat} (hs : s < 2 ^ ps.length) (h2 : ∀ i, i < ps.length → s ≠ 2 ^ i) : pvB ps s a b = canB ps a b s := by
  by_cases h0 : s = 0
  · subst h0
    rw [canB_zero]; exact dB_T (.inl rfl)
  · rw [Bool.eq_iff_iff, canB_iff, pvB, dB_iff, ← cut2_can hs h0 h2]
    exact ⟨fun h => h.resolve_left h0, .inr⟩
theorem pv_of {ps : List Pane} {s a b : Nat} {v : Bool} (h0 : s ≠ 0) (e : dB (Cut2 ps s a b) = v) : v = pvB ps s a b := by
  rw [← e, Bool.eq_iff_iff, pvB, dB_iff, dB_iff]
  exact ⟨.inr, fun h => h.resolve_left h0⟩
theorem pow4 {n : Nat} (h : n ≤ 4) : 1 ≤ 2 ^ n ∧ 2 ^ n ≤ 16 := ⟨Nat.one_le_two_pow, Nat.le_trans (Nat.pow_le_pow_right (by omega) h) (by omega)⟩
theorem setsOf_ok {A : Amb} {W H : Int} {v : Value} {ps : List Pane} (hl : RdL Pane.enc 4 A.h v ps) (hk : cfOk W H ps = true) : Ctr Try.prog 72 #[.agg #[vI W, vI H, v]] A [] (fun v gs => ∃ b L, v = .pointer (some ⟨b, 0, none⟩) ∧ gs = [Cel b 105 (L.map fun u : Bool => .bool u)] ∧ T1 ps W.toNat H.toNat (2 ^ ps.length) L) := by
  obtain ⟨hk1, hk2, hk3, hk4, hk5⟩ := cfOk_iff.1 hk
  obtain ⟨hw1, hw2, hw3, hw4, hw5, hw6⟩ := workOk_iff.1 hk1
  obtain ⟨W, rfl⟩ := Int.eq_ofNat_of_zero_le (show 0 ≤ W by omega)
  obtain ⟨H, rfl⟩ := Int.eq_ofNat_of_zero_le (show 0 ≤ H by omega)
  obtain ⟨hp1, hp2⟩ := pow4 hk2
  obtain ⟨la, lc, rfl, hlb, hl⟩ := hl.un
  refine Ctr.body (args := [_]) Try.func72 rfl Try.ntmps72 Try.results72 (by simp) ?_
  refine CJ.seq ?_
  refine CJ.region ?_
  refine LJ.boxG (vs := [_, _, _]) rfl rfl (fun b1 => ?_)
  refine LJ.yd rfl (Yd.asP rfl) ?_
  refine LJ.nil ?_
  refine CJ.seq ?_
  refine CJ.region ?_
  refine LJ.alloc ((List.replicate 4624 false).map fun u => .bool u) (by simp [Value.cells]) rfl (fun b2 => ?_)
  refine LJ.norm [_, _] rfl ?_
  refine LJ.yd rfl (Yd.asP rfl) ?_
  refine LJ.nil ?_
  refine CJ.seq ?_
  refine CJ.seq ?_
  refine CJ.region ?_
  refine LJ.yd rfl (Yd.fieldAddr rfl) ?_
  refine LJ.yd rfl (Yd.loadC 0 rfl rfl rfl) ?_
  refine LJ.yd rfl (Yd.len rfl) ?_
  refine LJ.yd rfl (Yd.shl1 rfl rfl (by omega)) ?_
  refine LJ.yd rfl (Yd.mvI rfl) ?_
  refine LJ.nil ?_
  refine CJ.block ?_
  refine CJ.loopF [1, 2, 3, 15] (Nat × List Bool) (fun ⟨s, L⟩ => s ≤ 2 ^ ps.length ∧ L.length = 4624 ∧ T1 ps W H s L) (fun ⟨s, L⟩ => [(16, vI s)]) (fun ⟨s, L⟩ => [Cel b2 105 (L.map fun u : Bool => .bool u)]) (fun ⟨s, L⟩ => 2 ^ ps.length - s) (0, List.replicate 4624 false) [_] [0] [1] rfl rfl rfl ?_ ⟨rfl, trivial⟩ ?_
  · exact ⟨by omega, by simp, by simp, fun t a b h => by omega⟩
  · rintro ⟨s, L⟩ σ ⟨hs5, hLl, hT1⟩
    refine CJ.norm [_, _] rfl ?_
    refine CJ.seq ?_
    refine CJ.region ?_
    refine LJ.splitD rfl (Yd.lss rfl rfl) (fun h17 => ?_) (fun h17 => ?_)
    · refine LJ.nil ?_
      refine CJ.seq ?_
      refine CJ.condT rfl ?_
      refine CJ.skip ?_
      refine CJ.seq ?_
      refine CJ.block ?_
      refine CJ.seq ?_
      refine CJ.region ?_
      refine LJ.yd rfl (Yd.mvI rfl) ?_
      refine LJ.yd rfl (Yd.asI rfl) ?_
      refine LJ.nil ?_
      refine CJ.seq ?_
      refine CJ.seq ?_
      refine CJ.region ?_
      refine LJ.yd rfl (Yd.asI rfl) ?_
      refine LJ.nil ?_
      refine CJ.block ?_
      refine CJ.loopF [1, 2, 3, 4, 15, 16, 17, 18] (Nat × List Bool) (fun ⟨w, L2⟩ => w ≤ W + 1 ∧ 1 ≤ w ∧ L2.length = 4624 ∧ T1 ps W H s L2 ∧ T2 W H s w 1 (pvB ps s) L2) (fun ⟨w, L2⟩ => [(5, vI w)]) (fun ⟨w, L2⟩ => [Cel b2 105 (L2.map fun u : Bool => .bool u)]) (fun ⟨w, L2⟩ => W + 1 - w) (1, L) [_] [0] [1] rfl rfl rfl ?_ ⟨rfl, trivial⟩ ?_
      · exact ⟨by omega, by omega, hLl, hT1, T2.init⟩
      · rintro ⟨w, L2⟩ σ ⟨hw5a, hw5b, hL2l, hT2, hU2⟩
        refine CJ.norm [_, _] rfl ?_
        refine CJ.seq ?_
        refine CJ.seq ?_
        refine CJ.region ?_
        refine LJ.yd rfl (Yd.mvI rfl) ?_
        refine LJ.yd rfl (Yd.fieldAddr rfl) ?_
        refine LJ.yd rfl (Yd.loadC 0 rfl rfl rfl) ?_
        refine LJ.splitD rfl (Yd.leq rfl rfl) (fun h22 => ?_) (fun h22 => ?_)
        · refine LJ.nil ?_
          refine CJ.condT rfl ?_
          refine CJ.skip ?_
          refine CJ.seq ?_
          refine CJ.block ?_
          refine CJ.seq ?_
          refine CJ.region ?_
          refine LJ.yd rfl (Yd.asI rfl) ?_
          refine LJ.nil ?_
          refine CJ.block ?_
          refine CJ.loopF [1, 2, 3, 4, 5, 15, 16, 17, 18, 19, 20, 21, 22] (Nat × List Bool) (fun ⟨h, L3⟩ => h ≤ H + 1 ∧ 1 ≤ h ∧ L3.length = 4624 ∧ T1 ps W H s L3 ∧ T2 W H s w h (pvB ps s) L3) (fun ⟨h, L3⟩ => [(6, vI h)]) (fun ⟨h, L3⟩ => [Cel b2 105 (L3.map fun u : Bool => .bool u)]) (fun ⟨h, L3⟩ => H + 1 - h) (1, L2) [_] [0] [1] rfl rfl rfl ?_ ⟨rfl, trivial⟩ ?_
          · exact ⟨by omega, by omega, hL2l, hT2, hU2⟩
          · rintro ⟨h, L3⟩ σ ⟨hh5a, hh5b, hL3l, hT3, hU3⟩
            refine CJ.norm [_, _] rfl ?_
            refine CJ.seq ?_
            refine CJ.seq ?_
            refine CJ.region ?_
            refine LJ.yd rfl (Yd.mvI rfl) ?_
            refine LJ.yd rfl (Yd.fieldAddr rfl) ?_
            refine LJ.yd rfl (Yd.loadC 0 rfl rfl rfl) ?_
            refine LJ.splitD rfl (Yd.leq rfl rfl) (fun h28 => ?_) (fun h28 => ?_)
            · refine LJ.nil ?_
              refine CJ.condT rfl ?_
              refine CJ.skip ?_
              refine CJ.seq ?_
              refine CJ.block ?_
              refine CJ.regionD [0] [1] (by kernel_rfl) rfl ?_
              refine DJ.norm [_] [_] rfl rfl ?_
              refine DJ.yd 0 rfl (by kernel_rfl) (by kernel_rfl) (by kernel_rfl) rfl rfl (Yd.mvP rfl) ?_
              refine DJ.yd 1 rfl (by kernel_rfl) (by kernel_rfl) (by kernel_rfl) rfl rfl (Yd.mvI rfl) ?_
              refine DJ.yd 2 rfl (by kernel_rfl) (by kernel_rfl) (by kernel_rfl) rfl rfl (Yd.mvI rfl) ?_
              refine DJ.yd 3 rfl (by kernel_rfl) (by kernel_rfl) (by kernel_rfl) rfl rfl (Yd.mvI rfl) ?_
              refine DJ.yd 4 rfl (by kernel_rfl) (by kernel_rfl) (by kernel_rfl) rfl rfl (Yd.mvI rfl) ?_
              refine DJ.splitD 5 rfl (by kernel_rfl) (by kernel_rfl) (by kernel_rfl) rfl rfl (Yd.eql rfl rfl) (fun h36 => ?_) (fun h36 => ?_)
              · refine DJ.yd 6 rfl (by kernel_rfl) (by kernel_rfl) (by kernel_rfl) rfl rfl (Yd.mvB rfl) ?_
                refine DJ.skip 7 rfl (by kernel_rfl) (by kernel_rfl) (by kernel_rfl) rfl rfl ?_
                refine DJ.skip 8 rfl (by kernel_rfl) (by kernel_rfl) (by kernel_rfl) rfl rfl ?_
                refine DJ.skip 9 rfl (by kernel_rfl) (by kernel_rfl) (by kernel_rfl) rfl rfl ?_
                refine DJ.skip 10 rfl (by kernel_rfl) (by kernel_rfl) (by kernel_rfl) rfl rfl ?_
                refine DJ.skip 11 rfl (by kernel_rfl) (by kernel_rfl) (by kernel_rfl) rfl rfl ?_
                refine DJ.yd 12 rfl (by kernel_rfl) (by kernel_rfl) (by kernel_rfl) rfl rfl (Yd.pickTB rfl rfl) ?_
                refine DJ.yd 13 rfl (by kernel_rfl) (by kernel_rfl) (by kernel_rfl) rfl rfl (Yd.nilCheck rfl) ?_
                refine DJ.yd 14 rfl (by kernel_rfl) (by kernel_rfl) (by kernel_rfl) rfl rfl (Yd.idxArr rfl rfl (by omega) (by omega)) ?_
                refine DJ.yd 15 rfl (by kernel_rfl) (by kernel_rfl) (by kernel_rfl) rfl rfl (Yd.idxArr rfl rfl (by omega) (by omega)) ?_
                refine DJ.yd 16 rfl (by kernel_rfl) (by kernel_rfl) (by kernel_rfl) rfl rfl (Yd.idxArr rfl rfl (by omega) (by omega)) ?_
                refine DJ.one (i := 17) (by kernel_rfl) ?_
                refine DO.op rfl rfl rfl (fun k0 hk0 dk0 => OpR.stM (j := (s * 17 + w) * 17 + h) (e1 := fun u => .bool u) 0 (fun _ => rfl) (fun _ => rfl) rfl rfl rfl (by omega) (by first | rfl | omega | (simp; done) | (simp; omega) | (simp [upN_len]; omega) | (simp [idxBy_len]; omega) | (simp [marks_len]; omega) | (simp [upN_len]; done) | (simp [idxBy_len]; done) | (simp [marks_len]; done) | (simp at *; omega))) ?_
                rintro _ _ ⟨rfl, rfl⟩
                refine DJ.norm [_] [_] rfl rfl ?_
                refine DJ.done (by kernel_rfl) ?_
                refine CJ.region ?_
                refine LJ.yd rfl (Yd.mvI rfl) ?_
                refine LJ.yd rfl (Yd.add rfl rfl (by unfold I64; omega)) ?_
                refine LJ.yd rfl (Yd.asI rfl) ?_
                refine LJ.nil ?_
                refine ⟨(h + 1, L3.set ((s * 17 + w) * 17 + h) true), ?_, ⟨rfl, rfl, rfl, rfl, rfl, rfl, rfl, rfl, rfl, rfl, rfl, rfl, rfl, trivial⟩, ⟨rfl, trivial⟩, Ent.refl _, ?_⟩
                · refine ⟨by omega, ?_⟩
                  exact ⟨by omega, by rw [List.length_set]; exact hL3l, hT3.set (by omega) (by omega), hU3.set (by omega) (by omega) (by omega) ((dB_T (.inl (by omega))).symm)⟩
                · first | omega | (dsimp only; omega) | (simp only []; omega)
              · refine DJ.yd 6 rfl (by kernel_rfl) (by kernel_rfl) (by kernel_rfl) rfl rfl (Yd.mvB rfl) ?_
                refine DJ.yd 7 rfl (by kernel_rfl) (by kernel_rfl) (by kernel_rfl) rfl rfl (Yd.mvP rfl) ?_
                refine DJ.yd 8 rfl (by kernel_rfl) (by kernel_rfl) (by kernel_rfl) rfl rfl (Yd.mvI rfl) ?_
                refine DJ.yd 9 rfl (by kernel_rfl) (by kernel_rfl) (by kernel_rfl) rfl rfl (Yd.mvI rfl) ?_
                refine DJ.yd 10 rfl (by kernel_rfl) (by kernel_rfl) (by kernel_rfl) rfl rfl (Yd.mvI rfl) ?_
                refine DJ.yd 13 rfl (by kernel_rfl) (by kernel_rfl) (by kernel_rfl) rfl rfl (Yd.nilCheck rfl) ?_
                refine DJ.yd 14 rfl (by kernel_rfl) (by kernel_rfl) (by kernel_rfl) rfl rfl (Yd.idxArr rfl rfl (by omega) (by omega)) ?_
                refine DJ.yd 15 rfl (by kernel_rfl) (by kernel_rfl) (by kernel_rfl) rfl rfl (Yd.idxArr rfl rfl (by omega) (by omega)) ?_
                refine DJ.one (i := 11) (by kernel_rfl) ?_
                refine DO.callB rfl rfl rfl (fun k0 hk0 dk0 k hk dk => partsInto_ok (Sts.celM hk dk 0 rfl) hT3 (by omega) (by omega) (by omega) (by omega) (by omega) (by omega) (by omega) (by omega)) (fun h42 => ?_) (fun h42 => ?_)
                · refine DJ.yd 12 rfl (by kernel_rfl) (by kernel_rfl) (by kernel_rfl) rfl rfl (Yd.pickFB rfl rfl) ?_
                  refine DJ.yd 16 rfl (by kernel_rfl) (by kernel_rfl) (by kernel_rfl) rfl rfl (Yd.idxArr rfl rfl (by omega) (by omega)) ?_
                  refine DJ.one (i := 17) (by kernel_rfl) ?_
                  refine DO.op rfl rfl rfl (fun k0 hk0 dk0 => OpR.stM (j := (s * 17 + w) * 17 + h) (e1 := fun u => .bool u) 0 (fun _ => rfl) (fun _ => rfl) rfl rfl rfl (by omega) (by first | rfl | omega | (simp; done) | (simp; omega) | (simp [upN_len]; omega) | (simp [idxBy_len]; omega) | (simp [marks_len]; omega) | (simp [upN_len]; done) | (simp [idxBy_len]; done) | (simp [marks_len]; done) | (simp at *; omega))) ?_
                  rintro _ _ ⟨rfl, rfl⟩
                  refine DJ.norm [_] [_] rfl rfl ?_
                  refine DJ.done (by kernel_rfl) ?_
                  refine CJ.region ?_
                  refine LJ.yd rfl (Yd.mvI rfl) ?_
                  refine LJ.yd rfl (Yd.add rfl rfl (by unfold I64; omega)) ?_
                  refine LJ.yd rfl (Yd.asI rfl) ?_
                  refine LJ.nil ?_
                  refine ⟨(h + 1, L3.set ((s * 17 + w) * 17 + h) true), ?_, ⟨rfl, rfl, rfl, rfl, rfl, rfl, rfl, rfl, rfl, rfl, rfl, rfl, rfl, trivial⟩, ⟨rfl, trivial⟩, Ent.refl _, ?_⟩
                  · refine ⟨by omega, ?_⟩
                    exact ⟨by omega, by rw [List.length_set]; exact hL3l, hT3.set (by omega) (by omega), hU3.set (by omega) (by omega) (by omega) (pv_of (by omega) h42)⟩
                  · first | omega | (dsimp only; omega) | (simp only []; omega)
                · refine DJ.yd 12 rfl (by kernel_rfl) (by kernel_rfl) (by kernel_rfl) rfl rfl (Yd.pickFB rfl rfl) ?_
                  refine DJ.yd 16 rfl (by kernel_rfl) (by kernel_rfl) (by kernel_rfl) rfl rfl (Yd.idxArr rfl rfl (by omega) (by omega)) ?_
                  refine DJ.one (i := 17) (by kernel_rfl) ?_
                  refine DO.op rfl rfl rfl (fun k0 hk0 dk0 => OpR.stM (j := (s * 17 + w) * 17 + h) (e1 := fun u => .bool u) 0 (fun _ => rfl) (fun _ => rfl) rfl rfl rfl (by omega) (by first | rfl | omega | (simp; done) | (simp; omega) | (simp [upN_len]; omega) | (simp [idxBy_len]; omega) | (simp [marks_len]; omega) | (simp [upN_len]; done) | (simp [idxBy_len]; done) | (simp [marks_len]; done) | (simp at *; omega))) ?_
                  rintro _ _ ⟨rfl, rfl⟩
                  refine DJ.norm [_] [_] rfl rfl ?_
                  refine DJ.done (by kernel_rfl) ?_
                  refine CJ.region ?_
                  refine LJ.yd rfl (Yd.mvI rfl) ?_
                  refine LJ.yd rfl (Yd.add rfl rfl (by unfold I64; omega)) ?_
                  refine LJ.yd rfl (Yd.asI rfl) ?_
                  refine LJ.nil ?_
                  refine ⟨(h + 1, L3.set ((s * 17 + w) * 17 + h) false), ?_, ⟨rfl, rfl, rfl, rfl, rfl, rfl, rfl, rfl, rfl, rfl, rfl, rfl, rfl, trivial⟩, ⟨rfl, trivial⟩, Ent.refl _, ?_⟩
                  · refine ⟨by omega, ?_⟩
                    exact ⟨by omega, by rw [List.length_set]; exact hL3l, hT3.set (by omega) (by omega), hU3.set (by omega) (by omega) (by omega) (pv_of (by omega) h42)⟩
                  · first | omega | (dsimp only; omega) | (simp only []; omega)
            · refine LJ.nil ?_
              refine CJ.condF rfl ?_
              refine CJ.exit ?_
              refine CJ.region ?_
              refine LJ.yd rfl (Yd.mvI rfl) ?_
              refine LJ.yd rfl (Yd.add rfl rfl (by unfold I64; omega)) ?_
              refine LJ.yd rfl (Yd.asI rfl) ?_
              refine LJ.nil ?_
              refine ⟨(w + 1, L3), ?_, ⟨rfl, rfl, rfl, rfl, rfl, rfl, rfl, rfl, trivial⟩, ⟨rfl, trivial⟩, Ent.refl _, ?_⟩
              · refine ⟨by omega, ?_⟩
                obtain rfl : h = H + 1 := by omega
                exact ⟨by omega, hL3l, hT3, hU3.row⟩
              · first | omega | (dsimp only; omega) | (simp only []; omega)
        · refine LJ.nil ?_
          refine CJ.condF rfl ?_
          refine CJ.exit ?_
          refine CJ.seq ?_
          refine CJ.region ?_
          refine LJ.yd rfl (Yd.fieldAddr rfl) ?_
          refine LJ.yd rfl (Yd.loadC 0 rfl rfl rfl) ?_
          refine LJ.yd rfl (Yd.len rfl) ?_
          refine LJ.yd rfl (Yd.mvI rfl) ?_
          refine LJ.nil ?_
          refine CJ.block ?_
          obtain rfl : w = W + 1 := by omega
          refine CJ.loopF [1, 2, 3, 4, 5, 15, 16, 17, 18, 19, 20, 21, 22, 48, 49, 50] (Nat × List Bool) (fun ⟨i, L4⟩ => i ≤ ps.length ∧ L4.length = 4624 ∧ T1 ps W H s L4 ∧ ((∃ j, j < i ∧ s = 2 ^ j) → T2 W H s (W + 1) 1 (fun a b => canB ps a b s) L4) ∧ ((∀ j, j < i → s ≠ 2 ^ j) → T2 W H s (W + 1) 1 (pvB ps s) L4)) (fun ⟨i, L4⟩ => [(51, vI i)]) (fun ⟨i, L4⟩ => [Cel b2 105 (L4.map fun u : Bool => .bool u)]) (fun ⟨i, L4⟩ => ps.length - i) (0, L2) [_] [0] [1] rfl rfl rfl ?_ ⟨rfl, trivial⟩ ?_
          · exact ⟨by omega, hL2l, hT2, fun ⟨j, hj, _⟩ => by omega, fun _ => hU2⟩
          · rintro ⟨i, L4⟩ σ ⟨hi5, hL4l, hT4, hA4, hB4⟩
            refine CJ.norm [_, _] rfl ?_
            refine CJ.seq ?_
            refine CJ.region ?_
            refine LJ.splitD rfl (Yd.lss rfl rfl) (fun h52 => ?_) (fun h52 => ?_)
            · refine LJ.nil ?_
              refine CJ.seq ?_
              refine CJ.condT rfl ?_
              refine CJ.skip ?_
              refine CJ.seq ?_
              refine CJ.block ?_
              refine CJ.seq ?_
              refine CJ.region ?_
              refine LJ.yd rfl (Yd.mvI rfl) ?_
              refine LJ.idxA rfl hl rfl rfl (by omega) (by first | rfl | omega | (simp; done) | (simp; omega) | (simp [upN_len]; omega) | (simp [idxBy_len]; omega) | (simp [marks_len]; omega) | (simp [upN_len]; done) | (simp [idxBy_len]; done) | (simp [marks_len]; done) | (simp at *; omega)) (fun ib54 io54 ia54 ir54 => ?_)
              refine LJ.lgA (enc := Pane.enc) (fun u => [vI u.W, vI u.H, .bool u.Turns, vI u.Kind]) (fun _ => rfl) (fun _ => rfl) ir54 rfl rfl rfl (by first | rfl | omega | (simp; done) | (simp; omega) | (simp [upN_len]; omega) | (simp [idxBy_len]; omega) | (simp [marks_len]; omega) | (simp [upN_len]; done) | (simp [idxBy_len]; done) | (simp [marks_len]; done) | (simp at *; omega)) (fun u55 hu55 => ?_)
              try simp only [Int.toNat_natCast] at hu55
              refine LJ.alloc ([_, _, _, _] : List Value) rfl rfl (fun b3 => ?_)
              refine LJ.yd rfl (Yd.asI rfl) ?_
              refine LJ.store (v := .agg #[_, _, _, _]) (us := [_, _, _, _]) 2 rfl rfl rfl rfl rfl rfl rfl rfl ?_
              refine LJ.nil ?_
              refine CJ.seq ?_
              refine CJ.seq ?_
              refine CJ.region ?_
              refine LJ.yd rfl (Yd.mvI rfl) ?_
              refine LJ.yd rfl (Yd.mvI rfl) ?_
              refine LJ.yd rfl (Yd.shl1 rfl rfl (by omega)) ?_
              refine LJ.splitN rfl (Yd.neq rfl rfl) (fun h59 => ?_) (fun h59 => ?_)
              · refine LJ.nil ?_
                refine CJ.condT rfl ?_
                refine CJ.exit ?_
                refine CJ.region ?_
                refine LJ.yd rfl (Yd.add rfl rfl (by unfold I64; omega)) ?_
                refine LJ.yd rfl (Yd.mvI rfl) ?_
                refine LJ.nil ?_
                refine ⟨(i + 1, L4), ?_, ⟨rfl, rfl, rfl, rfl, rfl, rfl, rfl, rfl, rfl, rfl, rfl, rfl, rfl, rfl, rfl, rfl, trivial⟩, ⟨rfl, trivial⟩, Ent.pick [0, 1] [2] rfl, ?_⟩
                · refine ⟨by omega, ?_⟩
                  refine ⟨hL4l, hT4, fun ⟨j, hj, hj2⟩ => hA4 ⟨j, ?_, hj2⟩, fun hj => hB4 fun j hj2 => hj j (by omega)⟩
                  by_cases e : j = i
                  · subst e; omega
                  · omega
                · first | omega | (dsimp only; omega) | (simp only []; omega)
              · refine LJ.nil ?_
                refine CJ.condF rfl ?_
                refine CJ.skip ?_
                refine CJ.seq ?_
                refine CJ.region ?_
                refine LJ.yd rfl (Yd.asI rfl) ?_
                refine LJ.nil ?_
                refine CJ.block ?_
                refine CJ.loopF [1, 2, 3, 4, 5, 7, 8, 15, 16, 17, 18, 19, 20, 21, 22, 48, 49, 50, 51, 52, 53, 54, 55, 56, 57, 58, 59] (Nat × List Bool) (fun ⟨w2, L5⟩ => w2 ≤ W + 1 ∧ 1 ≤ w2 ∧ L5.length = 4624 ∧ T1 ps W H s L5 ∧ T2 W H s w2 1 (fun a b => canB ps a b s) L5) (fun ⟨w2, L5⟩ => [(9, vI w2)]) (fun ⟨w2, L5⟩ => [Cel b2 105 (L5.map fun u : Bool => .bool u)]) (fun ⟨w2, L5⟩ => W + 1 - w2) (1, L4) [_, _] [0, 2] [1] rfl rfl rfl ?_ ⟨rfl, trivial⟩ ?_
                · exact ⟨by omega, by omega, hL4l, hT4, T2.init⟩
                · rintro ⟨w2, L5⟩ σ ⟨hw7a, hw7b, hL5l, hT5, hU5⟩
                  refine CJ.norm [_, _, _] rfl ?_
                  refine CJ.seq ?_
                  refine CJ.seq ?_
                  refine CJ.region ?_
                  refine LJ.yd rfl (Yd.mvI rfl) ?_
                  refine LJ.yd rfl (Yd.fieldAddr rfl) ?_
                  refine LJ.yd rfl (Yd.loadC 0 rfl rfl rfl) ?_
                  refine LJ.splitD rfl (Yd.leq rfl rfl) (fun h63 => ?_) (fun h63 => ?_)
                  · refine LJ.nil ?_
                    refine CJ.condT rfl ?_
                    refine CJ.skip ?_
                    refine CJ.seq ?_
                    refine CJ.block ?_
                    refine CJ.seq ?_
                    refine CJ.region ?_
                    refine LJ.yd rfl (Yd.asI rfl) ?_
                    refine LJ.nil ?_
                    refine CJ.block ?_
                    refine CJ.loopF [1, 2, 3, 4, 5, 7, 8, 9, 15, 16, 17, 18, 19, 20, 21, 22, 48, 49, 50, 51, 52, 53, 54, 55, 56, 57, 58, 59, 60, 61, 62, 63] (Nat × List Bool) (fun ⟨h2, L6⟩ => h2 ≤ H + 1 ∧ 1 ≤ h2 ∧ L6.length = 4624 ∧ T1 ps W H s L6 ∧ T2 W H s w2 h2 (fun a b => canB ps a b s) L6) (fun ⟨h2, L6⟩ => [(10, vI h2)]) (fun ⟨h2, L6⟩ => [Cel b2 105 (L6.map fun u : Bool => .bool u)]) (fun ⟨h2, L6⟩ => H + 1 - h2) (1, L5) [_, _] [0, 1] [2] rfl rfl rfl ?_ ⟨rfl, trivial⟩ ?_
                    · exact ⟨by omega, by omega, hL5l, hT5, hU5⟩
                    · rintro ⟨h2, L6⟩ σ ⟨hh7a, hh7b, hL6l, hT6, hU6⟩
                      refine CJ.norm [_, _, _] rfl ?_
                      refine CJ.seq ?_
                      refine CJ.seq ?_
                      refine CJ.region ?_
                      refine LJ.yd rfl (Yd.mvI rfl) ?_
                      refine LJ.yd rfl (Yd.fieldAddr rfl) ?_
                      refine LJ.yd rfl (Yd.loadC 0 rfl rfl rfl) ?_
                      refine LJ.splitD rfl (Yd.leq rfl rfl) (fun h69 => ?_) (fun h69 => ?_)
                      · refine LJ.nil ?_
                        refine CJ.condT rfl ?_
                        refine CJ.skip ?_
                        refine CJ.seq ?_
                        refine CJ.block ?_
                        refine CJ.regionD [0, 1] [2] (by kernel_rfl) rfl ?_
                        refine DJ.norm [_, _] [_] rfl rfl ?_
                        refine DJ.yd 0 rfl (by kernel_rfl) (by kernel_rfl) (by kernel_rfl) rfl rfl (Yd.mvP rfl) ?_
                        refine DJ.yd 1 rfl (by kernel_rfl) (by kernel_rfl) (by kernel_rfl) rfl rfl (Yd.mvI rfl) ?_
                        refine DJ.yd 2 rfl (by kernel_rfl) (by kernel_rfl) (by kernel_rfl) rfl rfl (Yd.mvI rfl) ?_
                        refine DJ.yd 3 rfl (by kernel_rfl) (by kernel_rfl) (by kernel_rfl) rfl rfl (Yd.mvI rfl) ?_
                        refine DJ.yd 4 rfl (by kernel_rfl) (by kernel_rfl) (by kernel_rfl) rfl rfl (Yd.loadG (us := [_, _, _, _]) 1 rfl rfl rfl rfl) ?_
                        refine DJ.yd 5 rfl (by kernel_rfl) (by kernel_rfl) (by kernel_rfl) rfl rfl (Yd.mvI rfl) ?_
                        refine DJ.yd 6 rfl (by kernel_rfl) (by kernel_rfl) (by kernel_rfl) rfl rfl (Yd.mvI rfl) ?_
                        refine DJ.yd 9 rfl (by kernel_rfl) (by kernel_rfl) (by kernel_rfl) rfl rfl (Yd.nilCheck rfl) ?_
                        refine DJ.yd 10 rfl (by kernel_rfl) (by kernel_rfl) (by kernel_rfl) rfl rfl (Yd.idxArr rfl rfl (by omega) (by omega)) ?_
                        refine DJ.yd 11 rfl (by kernel_rfl) (by kernel_rfl) (by kernel_rfl) rfl rfl (Yd.idxArr rfl rfl (by omega) (by omega)) ?_
                        refine DJ.one (i := 7) (by kernel_rfl) ?_
                        refine DO.callV rfl rfl rfl (fun k0 hk0 dk0 k hk dk => WaysInI_ok (hw6 u55 (List.mem_of_getElem? hu55)) (by omega) (by omega)) ?_
                        refine DJ.yd 8 rfl (by kernel_rfl) (by kernel_rfl) (by kernel_rfl) rfl rfl (Yd.gtr rfl rfl) ?_
                        refine DJ.yd 12 rfl (by kernel_rfl) (by kernel_rfl) (by kernel_rfl) rfl rfl (Yd.idxArr rfl rfl (by omega) (by omega)) ?_
                        refine DJ.one (i := 13) (by kernel_rfl) ?_
                        refine DO.op rfl rfl rfl (fun k0 hk0 dk0 => OpR.stM (j := (s * 17 + w2) * 17 + h2) (e1 := fun u => .bool u) 0 (fun _ => rfl) (fun _ => rfl) rfl rfl rfl (by omega) (by first | rfl | omega | (simp; done) | (simp; omega) | (simp [upN_len]; omega) | (simp [idxBy_len]; omega) | (simp [marks_len]; omega) | (simp [upN_len]; done) | (simp [idxBy_len]; done) | (simp [marks_len]; done) | (simp at *; omega))) ?_
                        rintro _ _ ⟨rfl, rfl⟩
                        refine DJ.norm [_, _] [_] rfl rfl ?_
                        refine DJ.done (by kernel_rfl) ?_
                        refine CJ.region ?_
                        refine LJ.yd rfl (Yd.mvI rfl) ?_
                        refine LJ.yd rfl (Yd.add rfl rfl (by unfold I64; omega)) ?_
                        refine LJ.yd rfl (Yd.asI rfl) ?_
                        refine LJ.nil ?_
                        refine ⟨(h2 + 1, L6.set ((s * 17 + w2) * 17 + h2) (decide (0 < wnum u55 w2 h2))), ?_, ⟨rfl, rfl, rfl, rfl, rfl, rfl, rfl, rfl, rfl, rfl, rfl, rfl, rfl, rfl, rfl, rfl, rfl, rfl, rfl, rfl, rfl, rfl, rfl, rfl, rfl, rfl, rfl, rfl, rfl, rfl, rfl, rfl, trivial⟩, ⟨rfl, trivial⟩, Ent.refl _, ?_⟩
                        · refine ⟨by omega, ?_⟩
                          exact ⟨by omega, by rw [List.length_set]; exact hL6l, hT6.set (by omega) (by omega), hU6.set (by omega) (by omega) (by omega) (by rw [show s = 2 ^ i by omega]; exact sel_nat hu55)⟩
                        · first | omega | (dsimp only; omega) | (simp only []; omega)
                      · refine LJ.nil ?_
                        refine CJ.condF rfl ?_
                        refine CJ.exit ?_
                        refine CJ.region ?_
                        refine LJ.yd rfl (Yd.mvI rfl) ?_
                        refine LJ.yd rfl (Yd.add rfl rfl (by unfold I64; omega)) ?_
                        refine LJ.yd rfl (Yd.asI rfl) ?_
                        refine LJ.nil ?_
                        refine ⟨(w2 + 1, L6), ?_, ⟨rfl, rfl, rfl, rfl, rfl, rfl, rfl, rfl, rfl, rfl, rfl, rfl, rfl, rfl, rfl, rfl, rfl, rfl, rfl, rfl, rfl, rfl, rfl, rfl, rfl, rfl, rfl, trivial⟩, ⟨rfl, trivial⟩, Ent.refl _, ?_⟩
                        · refine ⟨by omega, ?_⟩
                          obtain rfl : h2 = H + 1 := by omega
                          exact ⟨by omega, hL6l, hT6, hU6.row⟩
                        · first | omega | (dsimp only; omega) | (simp only []; omega)
                  · refine LJ.nil ?_
                    refine CJ.condF rfl ?_
                    refine CJ.exit ?_
                    refine CJ.region ?_
                    refine LJ.yd rfl (Yd.add rfl rfl (by unfold I64; omega)) ?_
                    refine LJ.yd rfl (Yd.mvI rfl) ?_
                    refine LJ.nil ?_
                    refine ⟨(i + 1, L5), ?_, ⟨rfl, rfl, rfl, rfl, rfl, rfl, rfl, rfl, rfl, rfl, rfl, rfl, rfl, rfl, rfl, rfl, trivial⟩, ⟨rfl, trivial⟩, Ent.pick [0, 2] [1] rfl, ?_⟩
                    · refine ⟨by omega, ?_⟩
                      obtain rfl : w2 = W + 1 := by omega
                      exact ⟨hL5l, hT5, fun _ => hU5, fun hn => absurd (by omega) (hn i (by omega))⟩
                    · first | omega | (dsimp only; omega) | (simp only []; omega)
            · refine LJ.nil ?_
              refine CJ.seq ?_
              refine CJ.condF rfl ?_
              refine CJ.exit ?_
              refine CJ.region ?_
              refine LJ.yd rfl (Yd.add rfl rfl (by unfold I64; omega)) ?_
              refine LJ.yd rfl (Yd.mvI rfl) ?_
              refine LJ.nil ?_
              refine ⟨(s + 1, L4), ?_, ⟨rfl, rfl, rfl, rfl, trivial⟩, ⟨rfl, trivial⟩, Ent.refl _, ?_⟩
              · refine ⟨by omega, ?_⟩
                refine ⟨hL4l, hT4.next ?_⟩
                by_cases e : ∃ j, j < i ∧ s = 2 ^ j
                · exact hA4 e
                · have hn : ∀ j, j < i → s ≠ 2 ^ j := fun j hj hs => e ⟨j, hj, hs⟩
                  exact (hB4 hn).cong fun a b => pv_can (by omega) fun j hj => hn j (by omega)
              · first | omega | (dsimp only; omega) | (simp only []; omega)
    · refine LJ.nil ?_
      refine CJ.seq ?_
      refine CJ.condF rfl ?_
      refine CJ.exit ?_
      refine CJ.seq ?_
      refine CJ.region ?_
      refine LJ.yd rfl (Yd.mvP rfl) ?_
      refine LJ.yd rfl (Yd.asP rfl) ?_
      refine LJ.nil ?_
      refine CJ.ret ?_
      obtain rfl : s = 2 ^ ps.length := by omega
      exact Fin.R [_] (Res.one (ResV.tmp (v := .pointer _) rfl)) ⟨_, L, rfl, rfl, hT1⟩ (Ent.pick [1] [0] rfl)
end Go.Proofs.Ytkojheinklgdeaa
