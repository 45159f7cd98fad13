/-
  The generator of plans: its contracts.
-/
import Derived.Test.YtfnnhekbgjofoaaF1
namespace Go.Proofs.Ytfnnhekbgjofoaa
open Go
set_option maxRecDepth 20000
set_option maxHeartbeats 3000000

/-- how many numbers are read at most -/
def gF : Nat → Int
  | 0 => 0
  | n + 1 => 4 + 2 * gF n
theorem gF_pos : ∀ n, 0 ≤ gF n
  | 0 => by simp [gF]
  | n + 1 => by have := gF_pos n; simp only [gF]; omega
def GrowR (rb : Nat) (a : Option Addr) (n c : Nat) (p g : Int) (kb : Nat) (W H : Int) (v : Value) (fs : List HProp) : Prop :=
  ∃ (o e i : Int) (t : Bool) (x : Option Addr) (m l : Nat) (b : BT) (q : Int) (ps : List Pane) (ka : Option Addr) (kc : Nat), v = .agg #[vI o, vI e, vI i, .bool t, .slice x m l] ∧
    fs = [Rd rb a n c q, Cel kb 63 [vI W, vI H, .slice ka (ps.map Pane.enc).length kc], Row 101 4 ka kc (ps.map Pane.enc), fun h => RdT h [vI o, vI e, vI i, .bool t, .slice x m l] b] ∧
    p ≤ q ∧ q ≤ p + g ∧ ps.length ≤ 24 ∧ (∀ z ∈ ps, z.wf) ∧ b.sz ≤ g + 1
theorem GrowR.of {rb n c : Nat} {a : Option Addr} {p g : Int} {kb : Nat} {W H : Int} {o e i : Int} {t : Bool} {x : Option Addr} {m l : Nat} {b : BT} {q : Int} {ps : List Pane} {ka : Option Addr} {kc : Nat} {css : List (List Value)} (hc : css = ps.map Pane.enc)
    (h1 : p ≤ q) (h2 : q ≤ p + g) (h3 : ps.length ≤ 24) (h4 : ∀ z ∈ ps, z.wf) (h5 : b.sz ≤ g + 1) : GrowR rb a n c p g kb W H (.agg #[vI o, vI e, vI i, .bool t, .slice x m l])
      [Rd rb a n c q, Cel kb 63 [vI W, vI H, .slice ka css.length kc], Row 101 4 ka kc css, fun h => RdT h [vI o, vI e, vI i, .bool t, .slice x m l] b] := by
  subst hc; exact ⟨_, _, _, _, _, _, _, _, _, _, _, _, rfl, rfl, h1, h2, h3, h4, h5⟩
theorem grow_ok (N : Nat) : ∀ (A : Amb) (rb n c : Nat) (a : Option Addr) (p : Int) (kb : Nat) (W H : Int) (ps : List Pane) (ka : Option Addr) (kc : Nat) (x y deep : Int), RdCode A.h a n → 0 ≤ p → p + gF N ≤ 1000000 → ps.length ≤ 24 → (∀ z ∈ ps, z.wf) →
    1 ≤ x → x ≤ 1000 → 1 ≤ y → y ≤ 1000 → 0 ≤ deep → deep ≤ 1000 → deep < N → Ctr Try.prog 90 #[.pointer (some ⟨rb, 0, none⟩), .pointer (some ⟨kb, 0, none⟩), vI x, vI y, vI deep] A
      [Rd rb a n c p, Cel kb 63 [vI W, vI H, .slice ka (ps.map Pane.enc).length kc], Row 101 4 ka kc (ps.map Pane.enc)] (GrowR rb a n c p (gF N) kb W H) := by
  induction N with
  | zero => intros; omega
  | succ N ih =>
    intro A rb n c a p kb W H ps ka kc x y deep hcode hp0 hp1 hps hwf hx0 hx1 hy0 hy1 hd0 hdm hd1
    have hlm : (ps.map Pane.enc).length = ps.length := List.length_map _
    have hN : gF (N + 1) = 4 + 2 * gF N := rfl
    have hg := gF_pos N
    have hla : ∀ e : List Value, (List.map Pane.enc ps ++ [e]).length = ps.length + 1 := fun e => by simp
    refine Ctr.body (args := [_, _, _, _, _]) Try.func90 rfl Try.ntmps90 Try.results90 (by simp) ?_
    refine CJ.seq ?_
    refine CJ.region ?_
    refine LJ.alloc ([_, _, _, _, _] : List Value) rfl rfl (fun b1 => ?_)
    refine LJ.nil ?_
    refine CJ.seq ?_
    refine CJ.region ?_
    refine LJ.yd rfl (Yd.mvP rfl) ?_
    refine LJ.call (pickF _ [1, 2, 3]) (pickF _ [0]) rfl (perm_pickF _ [1, 2, 3] [0] rfl) (fun k hk dk => pick_ok (hcode.up) (by omega) (by omega)) ?_
    rintro _ _ ⟨x22, rfl, hx22, hy22, rfl⟩
    refine LJ.norm [_, _, _, _] rfl ?_
    refine LJ.yd rfl (Yd.asI rfl) ?_
    refine LJ.nil ?_
    refine CJ.seqK [0, 1, 2, 3, 4, 10, 11] Unit (fun _ => True) (fun _ => []) ?_ ?_
    · refine CJ.seq ?_
      refine CJ.region ?_
      refine LJ.yd rfl (Yd.mvI rfl) ?_
      refine LJ.splitD rfl (Yd.gtr rfl rfl) (fun h24 => ?_) (fun h24 => ?_)
      · refine LJ.yd rfl (Yd.mvB rfl) ?_
        refine LJ.gT rfl ?_
        refine LJ.yd rfl (Yd.mvI rfl) ?_
        refine LJ.gT rfl ?_
        refine LJ.splitD rfl (Yd.gtr rfl rfl) (fun h27 => ?_) (fun h27 => ?_)
        · refine LJ.yd rfl (Yd.pickTB rfl rfl) ?_
          refine LJ.yd rfl (Yd.mvB rfl) ?_
          refine LJ.gT rfl ?_
          refine LJ.yd rfl (Yd.mvI rfl) ?_
          refine LJ.gT rfl ?_
          refine LJ.splitD rfl (Yd.lss rfl rfl) (fun h31 => ?_) (fun h31 => ?_)
          · refine LJ.gT rfl ?_
            refine LJ.yd rfl (Yd.mvB rfl) ?_
            refine LJ.gF rfl rfl ?_
            refine LJ.gF rfl rfl ?_
            refine LJ.gF rfl rfl ?_
            refine LJ.gF rfl rfl ?_
            refine LJ.gF rfl rfl ?_
            refine LJ.gF rfl rfl ?_
            refine LJ.gT rfl ?_
            refine LJ.yd rfl (Yd.pickTB rfl rfl) ?_
            refine LJ.yd rfl (Yd.pickTB rfl rfl) ?_
            refine LJ.nil ?_
            refine CJ.condT rfl ?_
            refine CJ.seq ?_
            refine CJ.region ?_
            refine LJ.yd rfl (Yd.mvP rfl) ?_
            refine LJ.yd rfl (Yd.mvI rfl) ?_
            refine LJ.yd rfl (Yd.sub rfl rfl (by unfold I64; omega)) ?_
            refine LJ.call (pickF _ [0, 1, 2]) (pickF _ [3]) rfl (perm_pickF _ [0, 1, 2] [3] rfl) (fun k hk dk => pick_ok (hcode.up) (by omega) (by omega)) ?_
            rintro _ _ ⟨x44, rfl, hx44, hy44, rfl⟩
            refine LJ.norm [_, _, _, _] rfl ?_
            refine LJ.yd rfl (Yd.add rfl rfl (by unfold I64; omega)) ?_
            refine LJ.yd rfl (Yd.asI rfl) ?_
            refine LJ.nil ?_
            refine CJ.seq ?_
            refine CJ.region ?_
            refine LJ.yd rfl (Yd.mvP rfl) ?_
            refine LJ.yd rfl (Yd.mvP rfl) ?_
            refine LJ.yd rfl (Yd.mvI rfl) ?_
            refine LJ.yd rfl (Yd.mvI rfl) ?_
            refine LJ.yd rfl (Yd.mvI rfl) ?_
            refine LJ.yd rfl (Yd.sub rfl rfl (by unfold I64; omega)) ?_
            refine LJ.call (pickF _ [2]) (pickF _ [3, 0, 1]) rfl (perm_pickF _ [2] [3, 0, 1] rfl) (fun k hk dk => ih _ _ _ _ _ _ _ _ _ ps _ _ _ _ _ hcode.up (by omega) (by omega) hps hwf (by omega) (by omega) hy0 hy1 (by omega) (by omega) (by omega)) ?_
            rintro _ _ ⟨oK0, aK0, pK0, tK0, xK0, mK0, cK0, bK0, qK0, psK0, kaK0, kcK0, rfl, rfl, hqK0, hrK0, hlK0, hwK0, hzK0⟩
            refine LJ.norm [_, _, _, _, _] rfl ?_
            refine LJ.alloc ([_, _, _, _, _] : List Value) rfl rfl (fun b2 => ?_)
            refine LJ.store (v := .agg #[_, _, _, _, _]) (us := [_, _, _, _, _]) 5 rfl rfl rfl rfl rfl rfl rfl rfl ?_
            refine LJ.nil ?_
            refine CJ.seq ?_
            refine CJ.regionD [4, 5] [0, 1, 2, 3] (by kernel_rfl) rfl ?_
            refine DJ.norm [_, _] [_, _, _, _] rfl rfl ?_
            refine DJ.yd 0 rfl (by kernel_rfl) (by kernel_rfl) (by kernel_rfl) rfl rfl (Yd.mvI rfl) ?_
            refine DJ.yd 1 rfl (by kernel_rfl) (by kernel_rfl) (by kernel_rfl) rfl rfl (Yd.loadG (us := [_, _, _, _, _]) 1 rfl rfl rfl rfl) ?_
            refine DJ.yd 2 rfl (by kernel_rfl) (by kernel_rfl) (by kernel_rfl) rfl rfl (Yd.mvP rfl) ?_
            refine DJ.yd 3 rfl (by kernel_rfl) (by kernel_rfl) (by kernel_rfl) rfl rfl (Yd.mvP rfl) ?_
            refine DJ.yd 4 rfl (by kernel_rfl) (by kernel_rfl) (by kernel_rfl) rfl rfl (Yd.mvI rfl) ?_
            refine DJ.yd 5 rfl (by kernel_rfl) (by kernel_rfl) (by kernel_rfl) rfl rfl (Yd.mvI rfl) ?_
            refine DJ.yd 6 rfl (by kernel_rfl) (by kernel_rfl) (by kernel_rfl) rfl rfl (Yd.sub rfl rfl (by unfold I64; omega)) ?_
            refine DJ.yd 7 rfl (by kernel_rfl) (by kernel_rfl) (by kernel_rfl) rfl rfl (Yd.mvI rfl) ?_
            refine DJ.yd 8 rfl (by kernel_rfl) (by kernel_rfl) (by kernel_rfl) rfl rfl (Yd.mvI rfl) ?_
            refine DJ.yd 9 rfl (by kernel_rfl) (by kernel_rfl) (by kernel_rfl) rfl rfl (Yd.sub rfl rfl (by unfold I64; omega)) ?_
            refine DJ.one (i := 10) (by kernel_rfl) ?_
            refine DO.call (pickF _ [0]) (pickF _ [1, 2, 3]) rfl rfl rfl (perm_pickF _ [0] [1, 2, 3] rfl) (fun k0 hk0 dk0 k hk dk => ih _ _ _ _ _ _ _ _ _ psK0 _ _ _ _ _ hcode.up (by omega) (by omega) hlK0 hwK0 (by omega) (by omega) hy0 hy1 (by omega) (by omega) (by omega)) ?_
            rintro _ _ ⟨oK1, aK1, pK1, tK1, xK1, mK1, cK1, bK1, qK1, psK1, kaK1, kcK1, rfl, rfl, hqK1, hrK1, hlK1, hwK1, hzK1⟩
            refine DJ.norm [_, _] [_, _, _, _, _] rfl rfl ?_
            refine DJ.one (i := 11) (by kernel_rfl) ?_
            refine DO.op rfl rfl rfl (fun k0 hk0 dk0 => OpR.buildSlice (cs := [_, _, _, _, _, _, _, _, _, _]) rfl rfl) ?_
            rintro _ _ ⟨b3, rfl, rfl⟩
            refine DJ.yd 12 rfl (by kernel_rfl) (by kernel_rfl) (by kernel_rfl) rfl rfl (Yd.build (cs := [_, _, _, _, _]) rfl) ?_
            refine DJ.one (i := 13) (by kernel_rfl) ?_
            refine DO.store (v := .agg #[_, _, _, _, _]) (us := [_, _, _, _, _]) 0 rfl rfl rfl rfl rfl rfl rfl rfl rfl rfl ?_
            refine DJ.done (by kernel_rfl) ?_
            refine CJ.ret ?_
            exact Fin.R [_, _, _, _] (Res.one (ResV.cell (us := [_, _, _, _, _]) 2 rfl rfl rfl rfl)) ⟨_, _, _, _, _, _, _, (.c true _ bK0 bK1), _, psK1, kaK1, kcK1, rfl, rfl, (by omega), (by simp only [gF]; omega), hlK1, hwK1, (by simp only [BT.sz, gF]; omega)⟩ (Ent.pickFold [3, 4, 5] [0, 6, 7] [1, 2] rfl (RdT.foldV (d := true) (by unfold I64; omega)))
          · refine LJ.gT rfl ?_
            refine LJ.yd rfl (Yd.mvB rfl) ?_
            refine LJ.gT rfl ?_
            refine LJ.yd rfl (Yd.mvI rfl) ?_
            refine LJ.gT rfl ?_
            refine LJ.splitD rfl (Yd.lss rfl rfl) (fun h34 => ?_) (fun h34 => ?_)
            · refine LJ.gT rfl ?_
              refine LJ.yd rfl (Yd.mvB rfl) ?_
              refine LJ.gT rfl ?_
              refine LJ.yd rfl (Yd.mvI rfl) ?_
              refine LJ.gT rfl ?_
              refine LJ.splitD rfl (Yd.eql rfl rfl) (fun h37 => ?_) (fun h37 => ?_)
              · refine LJ.gT rfl ?_
                refine LJ.yd rfl (Yd.pickTB rfl rfl) ?_
                refine LJ.gT rfl ?_
                refine LJ.yd rfl (Yd.pickFB rfl rfl) ?_
                refine LJ.yd rfl (Yd.pickTB rfl rfl) ?_
                refine LJ.nil ?_
                refine CJ.condT rfl ?_
                refine CJ.seq ?_
                refine CJ.region ?_
                refine LJ.yd rfl (Yd.mvP rfl) ?_
                refine LJ.yd rfl (Yd.mvI rfl) ?_
                refine LJ.yd rfl (Yd.sub rfl rfl (by unfold I64; omega)) ?_
                refine LJ.call (pickF _ [0, 1, 2]) (pickF _ [3]) rfl (perm_pickF _ [0, 1, 2] [3] rfl) (fun k hk dk => pick_ok (hcode.up) (by omega) (by omega)) ?_
                rintro _ _ ⟨x44, rfl, hx44, hy44, rfl⟩
                refine LJ.norm [_, _, _, _] rfl ?_
                refine LJ.yd rfl (Yd.add rfl rfl (by unfold I64; omega)) ?_
                refine LJ.yd rfl (Yd.asI rfl) ?_
                refine LJ.nil ?_
                refine CJ.seq ?_
                refine CJ.region ?_
                refine LJ.yd rfl (Yd.mvP rfl) ?_
                refine LJ.yd rfl (Yd.mvP rfl) ?_
                refine LJ.yd rfl (Yd.mvI rfl) ?_
                refine LJ.yd rfl (Yd.mvI rfl) ?_
                refine LJ.yd rfl (Yd.mvI rfl) ?_
                refine LJ.yd rfl (Yd.sub rfl rfl (by unfold I64; omega)) ?_
                refine LJ.call (pickF _ [2]) (pickF _ [3, 0, 1]) rfl (perm_pickF _ [2] [3, 0, 1] rfl) (fun k hk dk => ih _ _ _ _ _ _ _ _ _ ps _ _ _ _ _ hcode.up (by omega) (by omega) hps hwf (by omega) (by omega) hy0 hy1 (by omega) (by omega) (by omega)) ?_
                rintro _ _ ⟨oK0, aK0, pK0, tK0, xK0, mK0, cK0, bK0, qK0, psK0, kaK0, kcK0, rfl, rfl, hqK0, hrK0, hlK0, hwK0, hzK0⟩
                refine LJ.norm [_, _, _, _, _] rfl ?_
                refine LJ.alloc ([_, _, _, _, _] : List Value) rfl rfl (fun b4 => ?_)
                refine LJ.store (v := .agg #[_, _, _, _, _]) (us := [_, _, _, _, _]) 5 rfl rfl rfl rfl rfl rfl rfl rfl ?_
                refine LJ.nil ?_
                refine CJ.seq ?_
                refine CJ.regionD [4, 5] [0, 1, 2, 3] (by kernel_rfl) rfl ?_
                refine DJ.norm [_, _] [_, _, _, _] rfl rfl ?_
                refine DJ.yd 0 rfl (by kernel_rfl) (by kernel_rfl) (by kernel_rfl) rfl rfl (Yd.mvI rfl) ?_
                refine DJ.yd 1 rfl (by kernel_rfl) (by kernel_rfl) (by kernel_rfl) rfl rfl (Yd.loadG (us := [_, _, _, _, _]) 1 rfl rfl rfl rfl) ?_
                refine DJ.yd 2 rfl (by kernel_rfl) (by kernel_rfl) (by kernel_rfl) rfl rfl (Yd.mvP rfl) ?_
                refine DJ.yd 3 rfl (by kernel_rfl) (by kernel_rfl) (by kernel_rfl) rfl rfl (Yd.mvP rfl) ?_
                refine DJ.yd 4 rfl (by kernel_rfl) (by kernel_rfl) (by kernel_rfl) rfl rfl (Yd.mvI rfl) ?_
                refine DJ.yd 5 rfl (by kernel_rfl) (by kernel_rfl) (by kernel_rfl) rfl rfl (Yd.mvI rfl) ?_
                refine DJ.yd 6 rfl (by kernel_rfl) (by kernel_rfl) (by kernel_rfl) rfl rfl (Yd.sub rfl rfl (by unfold I64; omega)) ?_
                refine DJ.yd 7 rfl (by kernel_rfl) (by kernel_rfl) (by kernel_rfl) rfl rfl (Yd.mvI rfl) ?_
                refine DJ.yd 8 rfl (by kernel_rfl) (by kernel_rfl) (by kernel_rfl) rfl rfl (Yd.mvI rfl) ?_
                refine DJ.yd 9 rfl (by kernel_rfl) (by kernel_rfl) (by kernel_rfl) rfl rfl (Yd.sub rfl rfl (by unfold I64; omega)) ?_
                refine DJ.one (i := 10) (by kernel_rfl) ?_
                refine DO.call (pickF _ [0]) (pickF _ [1, 2, 3]) rfl rfl rfl (perm_pickF _ [0] [1, 2, 3] rfl) (fun k0 hk0 dk0 k hk dk => ih _ _ _ _ _ _ _ _ _ psK0 _ _ _ _ _ hcode.up (by omega) (by omega) hlK0 hwK0 (by omega) (by omega) hy0 hy1 (by omega) (by omega) (by omega)) ?_
                rintro _ _ ⟨oK1, aK1, pK1, tK1, xK1, mK1, cK1, bK1, qK1, psK1, kaK1, kcK1, rfl, rfl, hqK1, hrK1, hlK1, hwK1, hzK1⟩
                refine DJ.norm [_, _] [_, _, _, _, _] rfl rfl ?_
                refine DJ.one (i := 11) (by kernel_rfl) ?_
                refine DO.op rfl rfl rfl (fun k0 hk0 dk0 => OpR.buildSlice (cs := [_, _, _, _, _, _, _, _, _, _]) rfl rfl) ?_
                rintro _ _ ⟨b5, rfl, rfl⟩
                refine DJ.yd 12 rfl (by kernel_rfl) (by kernel_rfl) (by kernel_rfl) rfl rfl (Yd.build (cs := [_, _, _, _, _]) rfl) ?_
                refine DJ.one (i := 13) (by kernel_rfl) ?_
                refine DO.store (v := .agg #[_, _, _, _, _]) (us := [_, _, _, _, _]) 0 rfl rfl rfl rfl rfl rfl rfl rfl rfl rfl ?_
                refine DJ.done (by kernel_rfl) ?_
                refine CJ.ret ?_
                exact Fin.R [_, _, _, _] (Res.one (ResV.cell (us := [_, _, _, _, _]) 2 rfl rfl rfl rfl)) ⟨_, _, _, _, _, _, _, (.c true _ bK0 bK1), _, psK1, kaK1, kcK1, rfl, rfl, (by omega), (by simp only [gF]; omega), hlK1, hwK1, (by simp only [BT.sz, gF]; omega)⟩ (Ent.pickFold [3, 4, 5] [0, 6, 7] [1, 2] rfl (RdT.foldV (d := true) (by unfold I64; omega)))
              · refine LJ.gT rfl ?_
                refine LJ.yd rfl (Yd.pickTB rfl rfl) ?_
                refine LJ.gT rfl ?_
                refine LJ.yd rfl (Yd.pickFB rfl rfl) ?_
                refine LJ.yd rfl (Yd.pickTB rfl rfl) ?_
                refine LJ.nil ?_
                refine CJ.condF rfl ?_
                refine CJ.skip ?_
                refine ⟨(), ?_, ?_, ?_, Ent.refl _⟩
                · trivial
                · exact ⟨rfl, rfl, rfl, rfl, rfl, rfl, rfl, trivial⟩
                · exact trivial
            · refine LJ.gT rfl ?_
              refine LJ.yd rfl (Yd.mvB rfl) ?_
              refine LJ.gF rfl rfl ?_
              refine LJ.gF rfl rfl ?_
              refine LJ.gT rfl ?_
              refine LJ.yd rfl (Yd.pickFB rfl rfl) ?_
              refine LJ.gT rfl ?_
              refine LJ.yd rfl (Yd.pickFB rfl rfl) ?_
              refine LJ.yd rfl (Yd.pickTB rfl rfl) ?_
              refine LJ.nil ?_
              refine CJ.condF rfl ?_
              refine CJ.skip ?_
              refine ⟨(), ?_, ?_, ?_, Ent.refl _⟩
              · trivial
              · exact ⟨rfl, rfl, rfl, rfl, rfl, rfl, rfl, trivial⟩
              · exact trivial
        · refine LJ.yd rfl (Yd.pickTB rfl rfl) ?_
          refine LJ.yd rfl (Yd.mvB rfl) ?_
          refine LJ.gF rfl rfl ?_
          refine LJ.gF rfl rfl ?_
          refine LJ.gF rfl rfl ?_
          refine LJ.gF rfl rfl ?_
          refine LJ.gF rfl rfl ?_
          refine LJ.gF rfl rfl ?_
          refine LJ.gF rfl rfl ?_
          refine LJ.gF rfl rfl ?_
          refine LJ.gF rfl rfl ?_
          refine LJ.gF rfl rfl ?_
          refine LJ.yd rfl (Yd.pickFB rfl rfl) ?_
          refine LJ.nil ?_
          refine CJ.condF rfl ?_
          refine CJ.skip ?_
          refine ⟨(), ?_, ?_, ?_, Ent.refl _⟩
          · trivial
          · exact ⟨rfl, rfl, rfl, rfl, rfl, rfl, rfl, trivial⟩
          · exact trivial
      · refine LJ.yd rfl (Yd.mvB rfl) ?_
        refine LJ.gF rfl rfl ?_
        refine LJ.gF rfl rfl ?_
        refine LJ.yd rfl (Yd.pickFB rfl rfl) ?_
        refine LJ.yd rfl (Yd.mvB rfl) ?_
        refine LJ.gF rfl rfl ?_
        refine LJ.gF rfl rfl ?_
        refine LJ.gF rfl rfl ?_
        refine LJ.gF rfl rfl ?_
        refine LJ.gF rfl rfl ?_
        refine LJ.gF rfl rfl ?_
        refine LJ.gF rfl rfl ?_
        refine LJ.gF rfl rfl ?_
        refine LJ.gF rfl rfl ?_
        refine LJ.gF rfl rfl ?_
        refine LJ.yd rfl (Yd.pickFB rfl rfl) ?_
        refine LJ.nil ?_
        refine CJ.condF rfl ?_
        refine CJ.skip ?_
        refine ⟨(), ?_, ?_, ?_, Ent.refl _⟩
        · trivial
        · exact ⟨rfl, rfl, rfl, rfl, rfl, rfl, rfl, trivial⟩
        · exact trivial
    · rintro _ σ hp
      refine CJ.seqK [0, 1, 2, 3, 10, 11] Unit (fun _ => True) (fun _ => []) ?_ ?_
      · refine CJ.seq ?_
        refine CJ.region ?_
        refine LJ.yd rfl (Yd.mvI rfl) ?_
        refine LJ.splitD rfl (Yd.gtr rfl rfl) (fun h67 => ?_) (fun h67 => ?_)
        · refine LJ.yd rfl (Yd.mvB rfl) ?_
          refine LJ.gT rfl ?_
          refine LJ.yd rfl (Yd.mvI rfl) ?_
          refine LJ.gT rfl ?_
          refine LJ.splitD rfl (Yd.gtr rfl rfl) (fun h70 => ?_) (fun h70 => ?_)
          · refine LJ.yd rfl (Yd.pickTB rfl rfl) ?_
            refine LJ.yd rfl (Yd.mvB rfl) ?_
            refine LJ.gT rfl ?_
            refine LJ.yd rfl (Yd.mvI rfl) ?_
            refine LJ.gT rfl ?_
            refine LJ.splitD rfl (Yd.lss rfl rfl) (fun h74 => ?_) (fun h74 => ?_)
            · refine LJ.yd rfl (Yd.pickTB rfl rfl) ?_
              refine LJ.nil ?_
              refine CJ.condT rfl ?_
              refine CJ.seq ?_
              refine CJ.region ?_
              refine LJ.yd rfl (Yd.mvP rfl) ?_
              refine LJ.yd rfl (Yd.mvI rfl) ?_
              refine LJ.yd rfl (Yd.sub rfl rfl (by unfold I64; omega)) ?_
              refine LJ.call (pickF _ [0, 1, 2]) (pickF _ [3]) rfl (perm_pickF _ [0, 1, 2] [3] rfl) (fun k hk dk => pick_ok (hcode.up) (by omega) (by omega)) ?_
              rintro _ _ ⟨x79, rfl, hx79, hy79, rfl⟩
              refine LJ.norm [_, _, _, _] rfl ?_
              refine LJ.yd rfl (Yd.add rfl rfl (by unfold I64; omega)) ?_
              refine LJ.yd rfl (Yd.asI rfl) ?_
              refine LJ.nil ?_
              refine CJ.seq ?_
              refine CJ.region ?_
              refine LJ.yd rfl (Yd.mvP rfl) ?_
              refine LJ.yd rfl (Yd.mvP rfl) ?_
              refine LJ.yd rfl (Yd.mvI rfl) ?_
              refine LJ.yd rfl (Yd.mvI rfl) ?_
              refine LJ.yd rfl (Yd.mvI rfl) ?_
              refine LJ.yd rfl (Yd.sub rfl rfl (by unfold I64; omega)) ?_
              refine LJ.call (pickF _ [2]) (pickF _ [3, 0, 1]) rfl (perm_pickF _ [2] [3, 0, 1] rfl) (fun k hk dk => ih _ _ _ _ _ _ _ _ _ ps _ _ _ _ _ hcode.up (by omega) (by omega) hps hwf hx0 hx1 (by omega) (by omega) (by omega) (by omega) (by omega)) ?_
              rintro _ _ ⟨oK0, aK0, pK0, tK0, xK0, mK0, cK0, bK0, qK0, psK0, kaK0, kcK0, rfl, rfl, hqK0, hrK0, hlK0, hwK0, hzK0⟩
              refine LJ.norm [_, _, _, _, _] rfl ?_
              refine LJ.alloc ([_, _, _, _, _] : List Value) rfl rfl (fun b6 => ?_)
              refine LJ.store (v := .agg #[_, _, _, _, _]) (us := [_, _, _, _, _]) 5 rfl rfl rfl rfl rfl rfl rfl rfl ?_
              refine LJ.nil ?_
              refine CJ.seq ?_
              refine CJ.regionD [4, 5] [0, 1, 2, 3] (by kernel_rfl) rfl ?_
              refine DJ.norm [_, _] [_, _, _, _] rfl rfl ?_
              refine DJ.yd 0 rfl (by kernel_rfl) (by kernel_rfl) (by kernel_rfl) rfl rfl (Yd.mvI rfl) ?_
              refine DJ.yd 1 rfl (by kernel_rfl) (by kernel_rfl) (by kernel_rfl) rfl rfl (Yd.loadG (us := [_, _, _, _, _]) 1 rfl rfl rfl rfl) ?_
              refine DJ.yd 2 rfl (by kernel_rfl) (by kernel_rfl) (by kernel_rfl) rfl rfl (Yd.mvP rfl) ?_
              refine DJ.yd 3 rfl (by kernel_rfl) (by kernel_rfl) (by kernel_rfl) rfl rfl (Yd.mvP rfl) ?_
              refine DJ.yd 4 rfl (by kernel_rfl) (by kernel_rfl) (by kernel_rfl) rfl rfl (Yd.mvI rfl) ?_
              refine DJ.yd 5 rfl (by kernel_rfl) (by kernel_rfl) (by kernel_rfl) rfl rfl (Yd.mvI rfl) ?_
              refine DJ.yd 6 rfl (by kernel_rfl) (by kernel_rfl) (by kernel_rfl) rfl rfl (Yd.mvI rfl) ?_
              refine DJ.yd 7 rfl (by kernel_rfl) (by kernel_rfl) (by kernel_rfl) rfl rfl (Yd.sub rfl rfl (by unfold I64; omega)) ?_
              refine DJ.yd 8 rfl (by kernel_rfl) (by kernel_rfl) (by kernel_rfl) rfl rfl (Yd.mvI rfl) ?_
              refine DJ.yd 9 rfl (by kernel_rfl) (by kernel_rfl) (by kernel_rfl) rfl rfl (Yd.sub rfl rfl (by unfold I64; omega)) ?_
              refine DJ.one (i := 10) (by kernel_rfl) ?_
              refine DO.call (pickF _ [0]) (pickF _ [1, 2, 3]) rfl rfl rfl (perm_pickF _ [0] [1, 2, 3] rfl) (fun k0 hk0 dk0 k hk dk => ih _ _ _ _ _ _ _ _ _ psK0 _ _ _ _ _ hcode.up (by omega) (by omega) hlK0 hwK0 hx0 hx1 (by omega) (by omega) (by omega) (by omega) (by omega)) ?_
              rintro _ _ ⟨oK1, aK1, pK1, tK1, xK1, mK1, cK1, bK1, qK1, psK1, kaK1, kcK1, rfl, rfl, hqK1, hrK1, hlK1, hwK1, hzK1⟩
              refine DJ.norm [_, _] [_, _, _, _, _] rfl rfl ?_
              refine DJ.one (i := 11) (by kernel_rfl) ?_
              refine DO.op rfl rfl rfl (fun k0 hk0 dk0 => OpR.buildSlice (cs := [_, _, _, _, _, _, _, _, _, _]) rfl rfl) ?_
              rintro _ _ ⟨b7, rfl, rfl⟩
              refine DJ.yd 12 rfl (by kernel_rfl) (by kernel_rfl) (by kernel_rfl) rfl rfl (Yd.build (cs := [_, _, _, _, _]) rfl) ?_
              refine DJ.one (i := 13) (by kernel_rfl) ?_
              refine DO.store (v := .agg #[_, _, _, _, _]) (us := [_, _, _, _, _]) 0 rfl rfl rfl rfl rfl rfl rfl rfl rfl rfl ?_
              refine DJ.done (by kernel_rfl) ?_
              refine CJ.ret ?_
              exact Fin.R [_, _, _, _] (Res.one (ResV.cell (us := [_, _, _, _, _]) 2 rfl rfl rfl rfl)) ⟨_, _, _, _, _, _, _, (.c false _ bK0 bK1), _, psK1, kaK1, kcK1, rfl, rfl, (by omega), (by simp only [gF]; omega), hlK1, hwK1, (by simp only [BT.sz, gF]; omega)⟩ (Ent.pickFold [3, 4, 5] [0, 6, 7] [1, 2] rfl (RdT.foldV (d := false) (by unfold I64; omega)))
            · refine LJ.yd rfl (Yd.pickTB rfl rfl) ?_
              refine LJ.nil ?_
              refine CJ.condF rfl ?_
              refine CJ.skip ?_
              refine ⟨(), ?_, ?_, ?_, Ent.refl _⟩
              · trivial
              · exact ⟨rfl, rfl, rfl, rfl, rfl, rfl, trivial⟩
              · exact trivial
          · refine LJ.yd rfl (Yd.pickTB rfl rfl) ?_
            refine LJ.yd rfl (Yd.mvB rfl) ?_
            refine LJ.gF rfl rfl ?_
            refine LJ.gF rfl rfl ?_
            refine LJ.yd rfl (Yd.pickFB rfl rfl) ?_
            refine LJ.nil ?_
            refine CJ.condF rfl ?_
            refine CJ.skip ?_
            refine ⟨(), ?_, ?_, ?_, Ent.refl _⟩
            · trivial
            · exact ⟨rfl, rfl, rfl, rfl, rfl, rfl, trivial⟩
            · exact trivial
        · refine LJ.yd rfl (Yd.mvB rfl) ?_
          refine LJ.gF rfl rfl ?_
          refine LJ.gF rfl rfl ?_
          refine LJ.yd rfl (Yd.pickFB rfl rfl) ?_
          refine LJ.yd rfl (Yd.mvB rfl) ?_
          refine LJ.gF rfl rfl ?_
          refine LJ.gF rfl rfl ?_
          refine LJ.yd rfl (Yd.pickFB rfl rfl) ?_
          refine LJ.nil ?_
          refine CJ.condF rfl ?_
          refine CJ.skip ?_
          refine ⟨(), ?_, ?_, ?_, Ent.refl _⟩
          · trivial
          · exact ⟨rfl, rfl, rfl, rfl, rfl, rfl, trivial⟩
          · exact trivial
      · rintro _ σ hp
        refine CJ.seqK [0, 1, 2, 3, 10] Unit (fun _ => True) (fun _ => []) ?_ ?_
        · refine CJ.seq ?_
          refine CJ.region ?_
          refine LJ.yd rfl (Yd.mvI rfl) ?_
          refine LJ.splitD rfl (Yd.eql rfl rfl) (fun h102 => ?_) (fun h102 => ?_)
          · refine LJ.nil ?_
            refine CJ.condT rfl ?_
            refine CJ.seq ?_
            refine CJ.region ?_
            refine LJ.yd rfl (Yd.build (cs := [_, _, _, _, _]) rfl) ?_
            refine LJ.store (v := .agg #[_, _, _, _, _]) (us := [_, _, _, _, _]) 2 rfl rfl rfl rfl rfl rfl rfl rfl ?_
            refine LJ.nil ?_
            refine CJ.ret ?_
            exact Fin.R [_, _, _, _] (Res.one (ResV.cell (us := [_, _, _, _, _]) 2 rfl rfl rfl rfl)) ⟨_, _, _, _, _, _, _, .w, _, ps, ka, kc, rfl, rfl, (by omega), (by have := gF_pos N; omega), hps, hwf, (by have := gF_pos N; simp only [BT.sz, gF]; omega)⟩ (Ent.pickFold [3, 0, 1] [] [2] rfl (fun _ _ => .w))
          · refine LJ.nil ?_
            refine CJ.condF rfl ?_
            refine CJ.skip ?_
            refine ⟨(), ?_, ?_, ?_, Ent.refl _⟩
            · trivial
            · exact ⟨rfl, rfl, rfl, rfl, rfl, trivial⟩
            · exact trivial
        · rintro _ σ hp
          refine CJ.seq ?_
          refine CJ.seq ?_
          refine CJ.region ?_
          refine LJ.yd rfl (Yd.asI rfl) ?_
          refine LJ.nil ?_
          refine CJ.block ?_
          refine CJ.loopK [0, 1, 2, 3, 10] Nat (fun k => k ≤ ps.length) (fun k => [(16, vI k)]) (fun k => ps.length - k) 0 ?_ ?_ ?_
          · omega
          · exact ⟨rfl, trivial⟩
          · rintro k σ hp
            refine CJ.seq ?_
            refine CJ.seq ?_
            refine CJ.region ?_
            refine LJ.yd rfl (Yd.mvI rfl) ?_
            refine LJ.yd rfl (Yd.mvP rfl) ?_
            refine LJ.yd rfl (Yd.nilCheck rfl) ?_
            refine LJ.yd rfl (Yd.fieldAddr rfl) ?_
            refine LJ.yd rfl (Yd.loadC 0 rfl rfl rfl) ?_
            refine LJ.yd rfl (Yd.len rfl) ?_
            refine LJ.splitD rfl (Yd.lss rfl rfl) (fun h110 => ?_) (fun h110 => ?_)
            · refine LJ.nil ?_
              refine CJ.condT rfl ?_
              refine CJ.skip ?_
              refine CJ.seq ?_
              refine CJ.block ?_
              refine CJ.seq ?_
              refine CJ.region ?_
              refine LJ.yd rfl (Yd.asI rfl) ?_
              refine LJ.nil ?_
              refine CJ.block ?_
              refine CJ.loopK [0, 1, 2, 3, 10, 16, 104, 105, 106, 107, 108, 109, 110] Nat (fun j => j ≤ 2) (fun j => [(17, vI j)]) (fun j => 2 - j) 0 ?_ ?_ ?_
              · omega
              · exact ⟨rfl, trivial⟩
              · rintro j σ hp
                refine CJ.seq ?_
                refine CJ.seq ?_
                refine CJ.region ?_
                refine LJ.yd rfl (Yd.mvI rfl) ?_
                refine LJ.splitD rfl (Yd.lss rfl rfl) (fun h114 => ?_) (fun h114 => ?_)
                · refine LJ.nil ?_
                  refine CJ.condT rfl ?_
                  refine CJ.skip ?_
                  refine CJ.seq ?_
                  refine CJ.block ?_
                  refine CJ.seq ?_
                  refine CJ.region ?_
                  refine LJ.yd rfl (Yd.mvI rfl) ?_
                  refine LJ.yd rfl (Yd.mvI rfl) ?_
                  refine LJ.yd rfl (Yd.eql rfl rfl) ?_
                  refine LJ.yd rfl (Yd.build (cs := [_, _, _, _, _]) rfl) ?_
                  refine LJ.alloc ([_, _, _, _, _] : List Value) rfl rfl (fun b8 => ?_)
                  refine LJ.store (v := .agg #[_, _, _, _, _]) (us := [_, _, _, _, _]) 4 rfl rfl rfl rfl rfl rfl rfl rfl ?_
                  refine LJ.nil ?_
                  refine CJ.seq ?_
                  refine CJ.regionD [0, 1, 2, 3, 4] [] (by kernel_rfl) rfl ?_
                  refine DJ.norm [_, _, _, _, _] [] rfl rfl ?_
                  refine DJ.yd 0 rfl (by kernel_rfl) (by kernel_rfl) (by kernel_rfl) rfl rfl (Yd.mvP rfl) ?_
                  refine DJ.yd 1 rfl (by kernel_rfl) (by kernel_rfl) (by kernel_rfl) rfl rfl (Yd.nilCheck rfl) ?_
                  refine DJ.yd 2 rfl (by kernel_rfl) (by kernel_rfl) (by kernel_rfl) rfl rfl (Yd.loadG (us := [_, _, _]) 0 rfl rfl rfl rfl) ?_
                  refine DJ.yd 3 rfl (by kernel_rfl) (by kernel_rfl) (by kernel_rfl) rfl rfl (Yd.loadG (us := [_, _, _, _, _]) 4 rfl rfl rfl rfl) ?_
                  refine DJ.yd 4 rfl (by kernel_rfl) (by kernel_rfl) (by kernel_rfl) rfl rfl (Yd.mvI rfl) ?_
                  refine DJ.yd 5 rfl (by kernel_rfl) (by kernel_rfl) (by kernel_rfl) rfl rfl (Yd.mvI rfl) ?_
                  refine DJ.one (i := 6) (by kernel_rfl) ?_
                  refine DO.callB rfl rfl rfl (fun k0 hk0 dk0 k hk dk => fitsPlanS_p (ps := ps) (Sts.row hk0 dk0 1 (by omega) rfl).up) (fun h127 => ?_) (fun h127 => ?_)
                  · refine DJ.done (by kernel_rfl) ?_
                    refine CJ.condT rfl ?_
                    refine CJ.seq ?_
                    refine CJ.region ?_
                    refine LJ.yd rfl (Yd.loadG (us := [_, _, _, _, _]) 4 rfl rfl rfl rfl) ?_
                    refine LJ.store (v := .agg #[_, _, _, _, _]) (us := [_, _, _, _, _]) 2 rfl rfl rfl rfl rfl rfl rfl rfl ?_
                    refine LJ.nil ?_
                    refine CJ.ret ?_
                    exact Fin.R [_, _, _, _] (Res.one (ResV.cell (us := [_, _, _, _, _]) 2 rfl rfl rfl rfl)) ⟨_, _, _, _, _, _, _, (.p _ _), _, ps, ka, kc, rfl, rfl, (by omega), (by have := gF_pos N; omega), hps, hwf, (by have := gF_pos N; simp only [BT.sz, gF]; omega)⟩ (Ent.pickFold [3, 0, 1] [] [2, 4] rfl (fun _ _ => .p (by unfold I64; omega)))
                  · refine DJ.done (by kernel_rfl) ?_
                    refine CJ.condF rfl ?_
                    refine CJ.skip ?_
                    refine CJ.region ?_
                    refine LJ.yd rfl (Yd.mvI rfl) ?_
                    refine LJ.yd rfl (Yd.add rfl rfl (by unfold I64; omega)) ?_
                    refine LJ.yd rfl (Yd.asI rfl) ?_
                    refine LJ.nil ?_
                    refine ⟨(j + 1), ?_, ?_, ?_, Ent.pick [0, 1, 2, 3] [4] rfl, ?_⟩
                    · omega
                    · exact ⟨rfl, rfl, rfl, rfl, rfl, rfl, rfl, rfl, rfl, rfl, rfl, rfl, rfl, trivial⟩
                    · exact ⟨rfl, trivial⟩
                    · omega
                · refine LJ.nil ?_
                  refine CJ.condF rfl ?_
                  refine CJ.exit ?_
                  refine CJ.region ?_
                  refine LJ.yd rfl (Yd.mvI rfl) ?_
                  refine LJ.yd rfl (Yd.add rfl rfl (by unfold I64; omega)) ?_
                  refine LJ.yd rfl (Yd.asI rfl) ?_
                  refine LJ.nil ?_
                  refine ⟨(k + 1), ?_, ?_, ?_, Ent.refl _, ?_⟩
                  · omega
                  · exact ⟨rfl, rfl, rfl, rfl, rfl, trivial⟩
                  · exact ⟨rfl, trivial⟩
                  · omega
            · refine LJ.nil ?_
              refine CJ.condF rfl ?_
              refine CJ.exit ?_
              refine CJ.seq ?_
              refine CJ.seq ?_
              refine CJ.region ?_
              refine LJ.yd rfl (Yd.mvP rfl) ?_
              refine LJ.yd rfl (Yd.nilCheck rfl) ?_
              refine LJ.yd rfl (Yd.fieldAddr rfl) ?_
              refine LJ.yd rfl (Yd.loadC 0 rfl rfl rfl) ?_
              refine LJ.yd rfl (Yd.len rfl) ?_
              refine LJ.splitD rfl (Yd.eql rfl rfl) (fun h134 => ?_) (fun h134 => ?_)
              · refine LJ.nil ?_
                refine CJ.condT rfl ?_
                refine CJ.seq ?_
                refine CJ.region ?_
                refine LJ.yd rfl (Yd.build (cs := [_, _, _, _, _]) rfl) ?_
                refine LJ.store (v := .agg #[_, _, _, _, _]) (us := [_, _, _, _, _]) 2 rfl rfl rfl rfl rfl rfl rfl rfl ?_
                refine LJ.nil ?_
                refine CJ.ret ?_
                exact Fin.R [_, _, _, _] (Res.one (ResV.cell (us := [_, _, _, _, _]) 2 rfl rfl rfl rfl)) ⟨_, _, _, _, _, _, _, .w, _, ps, ka, kc, rfl, rfl, (by omega), (by have := gF_pos N; omega), hps, hwf, (by have := gF_pos N; simp only [BT.sz, gF]; omega)⟩ (Ent.pickFold [3, 0, 1] [] [2] rfl (fun _ _ => .w))
              · refine LJ.nil ?_
                refine CJ.condF rfl ?_
                refine CJ.skip ?_
                refine CJ.seq ?_
                refine CJ.region ?_
                refine LJ.yd rfl (Yd.mvP rfl) ?_
                refine LJ.call (pickF _ [0, 1, 2]) (pickF _ [3]) rfl (perm_pickF _ [0, 1, 2] [3] rfl) (fun k hk dk => pick_ok (hcode.up) (by omega) (by omega)) ?_
                rintro _ _ ⟨x137, rfl, hx137, hy137, rfl⟩
                refine LJ.norm [_, _, _, _] rfl ?_
                refine LJ.splitD rfl (Yd.eql rfl rfl) (fun h138 => ?_) (fun h138 => ?_)
                · refine LJ.yd rfl (Yd.mvB rfl) ?_
                  refine LJ.gT rfl ?_
                  refine LJ.yd rfl (Yd.mvI rfl) ?_
                  refine LJ.gT rfl ?_
                  refine LJ.yd rfl (Yd.mvI rfl) ?_
                  refine LJ.gT rfl ?_
                  refine LJ.splitN rfl (Yd.neq rfl rfl) (fun h142 => ?_) (fun h142 => ?_)
                  · refine LJ.yd rfl (Yd.pickTB rfl rfl) ?_
                    refine LJ.yd rfl (Yd.asB rfl) ?_
                    refine LJ.nil ?_
                    refine CJ.seq ?_
                    refine CJ.region ?_
                    refine LJ.yd rfl (Yd.mvI rfl) ?_
                    refine LJ.yd rfl (Yd.mvI rfl) ?_
                    refine LJ.yd rfl (Yd.mvB rfl) ?_
                    refine LJ.yd rfl (Yd.mvB rfl) ?_
                    refine LJ.gF rfl rfl ?_
                    refine LJ.gF rfl rfl ?_
                    refine LJ.gF rfl rfl ?_
                    refine LJ.yd rfl (Yd.pickTB rfl rfl) ?_
                    refine LJ.yd rfl (Yd.mvP rfl) ?_
                    refine LJ.call (pickF _ [0, 1, 2]) (pickF _ [3]) rfl (perm_pickF _ [0, 1, 2] [3] rfl) (fun k hk dk => pick_ok (hcode.up) (by omega) (by omega)) ?_
                    rintro _ _ ⟨x153, rfl, hx153, hy153, rfl⟩
                    refine LJ.norm [_, _, _, _] rfl ?_
                    refine LJ.yd rfl (Yd.build (cs := [_, _, _, _]) rfl) ?_
                    refine LJ.alloc ([_, _, _, _] : List Value) rfl rfl (fun b9 => ?_)
                    refine LJ.store (v := .agg #[_, _, _, _]) (us := [_, _, _, _]) 4 rfl rfl rfl rfl rfl rfl rfl rfl ?_
                    refine LJ.nil ?_
                    refine CJ.seq ?_
                    refine CJ.seq ?_
                    refine CJ.region ?_
                    refine LJ.yd rfl (Yd.mvB rfl) ?_
                    refine LJ.nil ?_
                    refine CJ.condT rfl ?_
                    refine CJ.seq ?_
                    refine CJ.region ?_
                    refine LJ.yd rfl (Yd.mvI rfl) ?_
                    refine LJ.yd rfl (Yd.fieldAddr rfl) ?_
                    refine LJ.store (v := .int _ _) (us := [_, _, _, _]) 4 rfl rfl rfl rfl rfl rfl rfl rfl ?_
                    refine LJ.nil ?_
                    refine CJ.region ?_
                    refine LJ.yd rfl (Yd.mvI rfl) ?_
                    refine LJ.yd rfl (Yd.fieldAddr rfl) ?_
                    refine LJ.store (v := .int _ _) (us := [_, _, _, _]) 4 rfl rfl rfl rfl rfl rfl rfl rfl ?_
                    refine LJ.nil ?_
                    refine CJ.seq ?_
                    refine CJ.regionD [2, 3, 4] [0, 1] (by kernel_rfl) rfl ?_
                    refine DJ.norm [_, _, _] [_, _] rfl rfl ?_
                    refine DJ.yd 0 rfl (by kernel_rfl) (by kernel_rfl) (by kernel_rfl) rfl rfl (Yd.mvP rfl) ?_
                    refine DJ.yd 1 rfl (by kernel_rfl) (by kernel_rfl) (by kernel_rfl) rfl rfl (Yd.mvP rfl) ?_
                    refine DJ.yd 2 rfl (by kernel_rfl) (by kernel_rfl) (by kernel_rfl) rfl rfl (Yd.nilCheck rfl) ?_
                    refine DJ.yd 3 rfl (by kernel_rfl) (by kernel_rfl) (by kernel_rfl) rfl rfl (Yd.fieldAddr rfl) ?_
                    refine DJ.yd 5 rfl (by kernel_rfl) (by kernel_rfl) (by kernel_rfl) rfl rfl (Yd.loadG (us := [_, _, _, _]) 2 rfl rfl rfl rfl) ?_
                    refine DJ.two (i := 4) (j := 6) (by kernel_rfl) ?_ ?_
                    · refine DO.yd rfl rfl rfl (fun _ _ _ => Yd.loadC 0 rfl rfl rfl) ?_
                      refine DJ.one (i := 6) (by kernel_rfl) ?_
                      refine DO.op rfl rfl rfl (fun k0 hk0 dk0 => OpR.buildSlice (cs := [_, _, _, _]) rfl rfl) ?_
                      rintro _ _ ⟨b10, rfl, rfl⟩
                      refine DJ.one (i := 7) (by kernel_rfl) ?_
                      refine DO.op rfl rfl rfl (fun k0 hk0 dk0 => OpR.appendT [[_, _, _, _]] 1 2 rfl rfl rfl rfl rfl rfl rfl rfl (by omega)) ?_
                      rintro _ _ ⟨ra167, rc167, rfl, rfl⟩
                      refine DJ.yd 8 rfl (by kernel_rfl) (by kernel_rfl) (by kernel_rfl) rfl rfl (Yd.nilCheck rfl) ?_
                      refine DJ.yd 9 rfl (by kernel_rfl) (by kernel_rfl) (by kernel_rfl) rfl rfl (Yd.fieldAddr rfl) ?_
                      refine DJ.one (i := 10) (by kernel_rfl) ?_
                      refine DO.store (v := .slice _ _ _) (us := [_, _, _]) 0 rfl rfl rfl rfl rfl rfl rfl rfl rfl rfl ?_
                      refine DJ.done (by kernel_rfl) ?_
                      refine CJ.seq ?_
                      refine CJ.region ?_
                      refine LJ.yd rfl (Yd.mvP rfl) ?_
                      refine LJ.yd rfl (Yd.nilCheck rfl) ?_
                      refine LJ.yd rfl (Yd.fieldAddr rfl) ?_
                      refine LJ.yd rfl (Yd.loadC 3 rfl rfl rfl) ?_
                      refine LJ.yd rfl (Yd.len rfl) ?_
                      refine LJ.yd rfl (Yd.sub rfl rfl (by rw [hla]; unfold I64; omega)) ?_
                      refine LJ.yd rfl (Yd.mvB rfl) ?_
                      refine LJ.yd rfl (Yd.build (cs := [_, _, _, _, _]) rfl) ?_
                      refine LJ.store (v := .agg #[_, _, _, _, _]) (us := [_, _, _, _, _]) 0 rfl rfl rfl rfl rfl rfl rfl rfl ?_
                      refine LJ.nil ?_
                      refine CJ.ret ?_
                      have hps2 : (ps ++ [(⟨y, x, true, x153⟩ : Pane)]).length ≤ 24 := by simp; omega
                      have hwf2 : ∀ z ∈ ps ++ [(⟨y, x, true, x153⟩ : Pane)], z.wf := by
                        intro z hz
                        rcases List.mem_append.1 hz with hz | hz
                        · exact hwf z hz
                        · cases List.mem_singleton.1 hz
                          exact ⟨by simp only [I64]; omega, by simp only [I64]; omega, by simp only [I64]; omega⟩
                      exact Fin.R [_, _, _, _] (Res.one (ResV.cell (us := [_, _, _, _, _]) 0 rfl rfl rfl rfl)) (GrowR.of (ps := ps ++ [⟨y, x, true, x153⟩]) (b := BT.p _ _) (by rw [List.map_append]; rfl) (by omega) (by omega) hps2 hwf2 (by have := gF_pos N; simp only [BT.sz, gF]; omega)) (Ent.pickFold [1, 3, 4] [] [0, 2, 5] rfl (fun _ _ => RdT.p (by rw [hla]; unfold I64; omega)))
                    · refine DO.op rfl rfl rfl (fun k0 hk0 dk0 => OpR.buildSlice (cs := [_, _, _, _]) rfl rfl) ?_
                      rintro _ _ ⟨b11, rfl, rfl⟩
                      refine DJ.one (i := 4) (by kernel_rfl) ?_
                      refine DO.yd rfl rfl rfl (fun _ _ _ => Yd.loadC 0 rfl rfl rfl) ?_
                      refine DJ.one (i := 7) (by kernel_rfl) ?_
                      refine DO.op rfl rfl rfl (fun k0 hk0 dk0 => OpR.appendT [[_, _, _, _]] 1 2 rfl rfl rfl rfl rfl rfl rfl rfl (by omega)) ?_
                      rintro _ _ ⟨ra167, rc167, rfl, rfl⟩
                      refine DJ.yd 8 rfl (by kernel_rfl) (by kernel_rfl) (by kernel_rfl) rfl rfl (Yd.nilCheck rfl) ?_
                      refine DJ.yd 9 rfl (by kernel_rfl) (by kernel_rfl) (by kernel_rfl) rfl rfl (Yd.fieldAddr rfl) ?_
                      refine DJ.one (i := 10) (by kernel_rfl) ?_
                      refine DO.store (v := .slice _ _ _) (us := [_, _, _]) 0 rfl rfl rfl rfl rfl rfl rfl rfl rfl rfl ?_
                      refine DJ.done (by kernel_rfl) ?_
                      refine CJ.seq ?_
                      refine CJ.region ?_
                      refine LJ.yd rfl (Yd.mvP rfl) ?_
                      refine LJ.yd rfl (Yd.nilCheck rfl) ?_
                      refine LJ.yd rfl (Yd.fieldAddr rfl) ?_
                      refine LJ.yd rfl (Yd.loadC 3 rfl rfl rfl) ?_
                      refine LJ.yd rfl (Yd.len rfl) ?_
                      refine LJ.yd rfl (Yd.sub rfl rfl (by rw [hla]; unfold I64; omega)) ?_
                      refine LJ.yd rfl (Yd.mvB rfl) ?_
                      refine LJ.yd rfl (Yd.build (cs := [_, _, _, _, _]) rfl) ?_
                      refine LJ.store (v := .agg #[_, _, _, _, _]) (us := [_, _, _, _, _]) 0 rfl rfl rfl rfl rfl rfl rfl rfl ?_
                      refine LJ.nil ?_
                      refine CJ.ret ?_
                      have hps2 : (ps ++ [(⟨y, x, true, x153⟩ : Pane)]).length ≤ 24 := by simp; omega
                      have hwf2 : ∀ z ∈ ps ++ [(⟨y, x, true, x153⟩ : Pane)], z.wf := by
                        intro z hz
                        rcases List.mem_append.1 hz with hz | hz
                        · exact hwf z hz
                        · cases List.mem_singleton.1 hz
                          exact ⟨by simp only [I64]; omega, by simp only [I64]; omega, by simp only [I64]; omega⟩
                      exact Fin.R [_, _, _, _] (Res.one (ResV.cell (us := [_, _, _, _, _]) 0 rfl rfl rfl rfl)) (GrowR.of (ps := ps ++ [⟨y, x, true, x153⟩]) (b := BT.p _ _) (by rw [List.map_append]; rfl) (by omega) (by omega) hps2 hwf2 (by have := gF_pos N; simp only [BT.sz, gF]; omega)) (Ent.pickFold [1, 3, 4] [] [0, 2, 5] rfl (fun _ _ => RdT.p (by rw [hla]; unfold I64; omega)))
                  · refine LJ.yd rfl (Yd.pickTB rfl rfl) ?_
                    refine LJ.yd rfl (Yd.asB rfl) ?_
                    refine LJ.nil ?_
                    refine CJ.seq ?_
                    refine CJ.region ?_
                    refine LJ.yd rfl (Yd.mvI rfl) ?_
                    refine LJ.yd rfl (Yd.mvI rfl) ?_
                    refine LJ.yd rfl (Yd.mvB rfl) ?_
                    refine LJ.yd rfl (Yd.mvB rfl) ?_
                    refine LJ.gT rfl ?_
                    refine LJ.yd rfl (Yd.mvP rfl) ?_
                    refine LJ.gT rfl ?_
                    refine LJ.call (pickF _ [0, 1, 2]) (pickF _ [3]) rfl (perm_pickF _ [0, 1, 2] [3] rfl) (fun k hk dk => pick_ok (hcode.up) (by omega) (by omega)) ?_
                    rintro _ _ ⟨x149, rfl, hx149, hy149, rfl⟩
                    refine LJ.norm [_, _, _, _] rfl ?_
                    refine LJ.gT rfl ?_
                    refine LJ.yd rfl (Yd.eql rfl rfl) ?_
                    refine LJ.yd rfl (Yd.pickFB rfl rfl) ?_
                    refine LJ.yd rfl (Yd.mvP rfl) ?_
                    refine LJ.call (pickF _ [0, 1, 2]) (pickF _ [3]) rfl (perm_pickF _ [0, 1, 2] [3] rfl) (fun k hk dk => pick_ok (hcode.up) (by omega) (by omega)) ?_
                    rintro _ _ ⟨x153, rfl, hx153, hy153, rfl⟩
                    refine LJ.norm [_, _, _, _] rfl ?_
                    refine LJ.yd rfl (Yd.build (cs := [_, _, _, _]) rfl) ?_
                    refine LJ.alloc ([_, _, _, _] : List Value) rfl rfl (fun b12 => ?_)
                    refine LJ.store (v := .agg #[_, _, _, _]) (us := [_, _, _, _]) 4 rfl rfl rfl rfl rfl rfl rfl rfl ?_
                    refine LJ.nil ?_
                    refine CJ.seq ?_
                    refine CJ.seq ?_
                    refine CJ.region ?_
                    refine LJ.yd rfl (Yd.mvB rfl) ?_
                    refine LJ.nil ?_
                    refine CJ.condF rfl ?_
                    refine CJ.skip ?_
                    refine CJ.seq ?_
                    refine CJ.regionD [2, 3, 4] [0, 1] (by kernel_rfl) rfl ?_
                    refine DJ.norm [_, _, _] [_, _] rfl rfl ?_
                    refine DJ.yd 0 rfl (by kernel_rfl) (by kernel_rfl) (by kernel_rfl) rfl rfl (Yd.mvP rfl) ?_
                    refine DJ.yd 1 rfl (by kernel_rfl) (by kernel_rfl) (by kernel_rfl) rfl rfl (Yd.mvP rfl) ?_
                    refine DJ.yd 2 rfl (by kernel_rfl) (by kernel_rfl) (by kernel_rfl) rfl rfl (Yd.nilCheck rfl) ?_
                    refine DJ.yd 3 rfl (by kernel_rfl) (by kernel_rfl) (by kernel_rfl) rfl rfl (Yd.fieldAddr rfl) ?_
                    refine DJ.yd 5 rfl (by kernel_rfl) (by kernel_rfl) (by kernel_rfl) rfl rfl (Yd.loadG (us := [_, _, _, _]) 2 rfl rfl rfl rfl) ?_
                    refine DJ.two (i := 4) (j := 6) (by kernel_rfl) ?_ ?_
                    · refine DO.yd rfl rfl rfl (fun _ _ _ => Yd.loadC 0 rfl rfl rfl) ?_
                      refine DJ.one (i := 6) (by kernel_rfl) ?_
                      refine DO.op rfl rfl rfl (fun k0 hk0 dk0 => OpR.buildSlice (cs := [_, _, _, _]) rfl rfl) ?_
                      rintro _ _ ⟨b13, rfl, rfl⟩
                      refine DJ.one (i := 7) (by kernel_rfl) ?_
                      refine DO.op rfl rfl rfl (fun k0 hk0 dk0 => OpR.appendT [[_, _, _, _]] 1 2 rfl rfl rfl rfl rfl rfl rfl rfl (by omega)) ?_
                      rintro _ _ ⟨ra167, rc167, rfl, rfl⟩
                      refine DJ.yd 8 rfl (by kernel_rfl) (by kernel_rfl) (by kernel_rfl) rfl rfl (Yd.nilCheck rfl) ?_
                      refine DJ.yd 9 rfl (by kernel_rfl) (by kernel_rfl) (by kernel_rfl) rfl rfl (Yd.fieldAddr rfl) ?_
                      refine DJ.one (i := 10) (by kernel_rfl) ?_
                      refine DO.store (v := .slice _ _ _) (us := [_, _, _]) 0 rfl rfl rfl rfl rfl rfl rfl rfl rfl rfl ?_
                      refine DJ.done (by kernel_rfl) ?_
                      refine CJ.seq ?_
                      refine CJ.region ?_
                      refine LJ.yd rfl (Yd.mvP rfl) ?_
                      refine LJ.yd rfl (Yd.nilCheck rfl) ?_
                      refine LJ.yd rfl (Yd.fieldAddr rfl) ?_
                      refine LJ.yd rfl (Yd.loadC 3 rfl rfl rfl) ?_
                      refine LJ.yd rfl (Yd.len rfl) ?_
                      refine LJ.yd rfl (Yd.sub rfl rfl (by rw [hla]; unfold I64; omega)) ?_
                      refine LJ.yd rfl (Yd.mvB rfl) ?_
                      refine LJ.yd rfl (Yd.build (cs := [_, _, _, _, _]) rfl) ?_
                      refine LJ.store (v := .agg #[_, _, _, _, _]) (us := [_, _, _, _, _]) 0 rfl rfl rfl rfl rfl rfl rfl rfl ?_
                      refine LJ.nil ?_
                      refine CJ.ret ?_
                      have hps2 : (ps ++ [(⟨x, y, decide (x149 = 0), x153⟩ : Pane)]).length ≤ 24 := by simp; omega
                      have hwf2 : ∀ z ∈ ps ++ [(⟨x, y, decide (x149 = 0), x153⟩ : Pane)], z.wf := by
                        intro z hz
                        rcases List.mem_append.1 hz with hz | hz
                        · exact hwf z hz
                        · cases List.mem_singleton.1 hz
                          exact ⟨by simp only [I64]; omega, by simp only [I64]; omega, by simp only [I64]; omega⟩
                      exact Fin.R [_, _, _, _] (Res.one (ResV.cell (us := [_, _, _, _, _]) 0 rfl rfl rfl rfl)) (GrowR.of (ps := ps ++ [⟨x, y, decide (x149 = 0), x153⟩]) (b := BT.p _ _) (by rw [List.map_append]; rfl) (by omega) (by omega) hps2 hwf2 (by have := gF_pos N; simp only [BT.sz, gF]; omega)) (Ent.pickFold [1, 3, 4] [] [0, 2, 5] rfl (fun _ _ => RdT.p (by rw [hla]; unfold I64; omega)))
                    · refine DO.op rfl rfl rfl (fun k0 hk0 dk0 => OpR.buildSlice (cs := [_, _, _, _]) rfl rfl) ?_
                      rintro _ _ ⟨b14, rfl, rfl⟩
                      refine DJ.one (i := 4) (by kernel_rfl) ?_
                      refine DO.yd rfl rfl rfl (fun _ _ _ => Yd.loadC 0 rfl rfl rfl) ?_
                      refine DJ.one (i := 7) (by kernel_rfl) ?_
                      refine DO.op rfl rfl rfl (fun k0 hk0 dk0 => OpR.appendT [[_, _, _, _]] 1 2 rfl rfl rfl rfl rfl rfl rfl rfl (by omega)) ?_
                      rintro _ _ ⟨ra167, rc167, rfl, rfl⟩
                      refine DJ.yd 8 rfl (by kernel_rfl) (by kernel_rfl) (by kernel_rfl) rfl rfl (Yd.nilCheck rfl) ?_
                      refine DJ.yd 9 rfl (by kernel_rfl) (by kernel_rfl) (by kernel_rfl) rfl rfl (Yd.fieldAddr rfl) ?_
                      refine DJ.one (i := 10) (by kernel_rfl) ?_
                      refine DO.store (v := .slice _ _ _) (us := [_, _, _]) 0 rfl rfl rfl rfl rfl rfl rfl rfl rfl rfl ?_
                      refine DJ.done (by kernel_rfl) ?_
                      refine CJ.seq ?_
                      refine CJ.region ?_
                      refine LJ.yd rfl (Yd.mvP rfl) ?_
                      refine LJ.yd rfl (Yd.nilCheck rfl) ?_
                      refine LJ.yd rfl (Yd.fieldAddr rfl) ?_
                      refine LJ.yd rfl (Yd.loadC 3 rfl rfl rfl) ?_
                      refine LJ.yd rfl (Yd.len rfl) ?_
                      refine LJ.yd rfl (Yd.sub rfl rfl (by rw [hla]; unfold I64; omega)) ?_
                      refine LJ.yd rfl (Yd.mvB rfl) ?_
                      refine LJ.yd rfl (Yd.build (cs := [_, _, _, _, _]) rfl) ?_
                      refine LJ.store (v := .agg #[_, _, _, _, _]) (us := [_, _, _, _, _]) 0 rfl rfl rfl rfl rfl rfl rfl rfl ?_
                      refine LJ.nil ?_
                      refine CJ.ret ?_
                      have hps2 : (ps ++ [(⟨x, y, decide (x149 = 0), x153⟩ : Pane)]).length ≤ 24 := by simp; omega
                      have hwf2 : ∀ z ∈ ps ++ [(⟨x, y, decide (x149 = 0), x153⟩ : Pane)], z.wf := by
                        intro z hz
                        rcases List.mem_append.1 hz with hz | hz
                        · exact hwf z hz
                        · cases List.mem_singleton.1 hz
                          exact ⟨by simp only [I64]; omega, by simp only [I64]; omega, by simp only [I64]; omega⟩
                      exact Fin.R [_, _, _, _] (Res.one (ResV.cell (us := [_, _, _, _, _]) 0 rfl rfl rfl rfl)) (GrowR.of (ps := ps ++ [⟨x, y, decide (x149 = 0), x153⟩]) (b := BT.p _ _) (by rw [List.map_append]; rfl) (by omega) (by omega) hps2 hwf2 (by have := gF_pos N; simp only [BT.sz, gF]; omega)) (Ent.pickFold [1, 3, 4] [] [0, 2, 5] rfl (fun _ _ => RdT.p (by rw [hla]; unfold I64; omega)))
                · refine LJ.yd rfl (Yd.mvB rfl) ?_
                  refine LJ.gF rfl rfl ?_
                  refine LJ.gF rfl rfl ?_
                  refine LJ.gF rfl rfl ?_
                  refine LJ.yd rfl (Yd.pickFB rfl rfl) ?_
                  refine LJ.yd rfl (Yd.asB rfl) ?_
                  refine LJ.nil ?_
                  refine CJ.seq ?_
                  refine CJ.region ?_
                  refine LJ.yd rfl (Yd.mvI rfl) ?_
                  refine LJ.yd rfl (Yd.mvI rfl) ?_
                  refine LJ.yd rfl (Yd.mvB rfl) ?_
                  refine LJ.yd rfl (Yd.mvB rfl) ?_
                  refine LJ.gT rfl ?_
                  refine LJ.yd rfl (Yd.mvP rfl) ?_
                  refine LJ.gT rfl ?_
                  refine LJ.call (pickF _ [0, 1, 2]) (pickF _ [3]) rfl (perm_pickF _ [0, 1, 2] [3] rfl) (fun k hk dk => pick_ok (hcode.up) (by omega) (by omega)) ?_
                  rintro _ _ ⟨x149, rfl, hx149, hy149, rfl⟩
                  refine LJ.norm [_, _, _, _] rfl ?_
                  refine LJ.gT rfl ?_
                  refine LJ.yd rfl (Yd.eql rfl rfl) ?_
                  refine LJ.yd rfl (Yd.pickFB rfl rfl) ?_
                  refine LJ.yd rfl (Yd.mvP rfl) ?_
                  refine LJ.call (pickF _ [0, 1, 2]) (pickF _ [3]) rfl (perm_pickF _ [0, 1, 2] [3] rfl) (fun k hk dk => pick_ok (hcode.up) (by omega) (by omega)) ?_
                  rintro _ _ ⟨x153, rfl, hx153, hy153, rfl⟩
                  refine LJ.norm [_, _, _, _] rfl ?_
                  refine LJ.yd rfl (Yd.build (cs := [_, _, _, _]) rfl) ?_
                  refine LJ.alloc ([_, _, _, _] : List Value) rfl rfl (fun b15 => ?_)
                  refine LJ.store (v := .agg #[_, _, _, _]) (us := [_, _, _, _]) 4 rfl rfl rfl rfl rfl rfl rfl rfl ?_
                  refine LJ.nil ?_
                  refine CJ.seq ?_
                  refine CJ.seq ?_
                  refine CJ.region ?_
                  refine LJ.yd rfl (Yd.mvB rfl) ?_
                  refine LJ.nil ?_
                  refine CJ.condF rfl ?_
                  refine CJ.skip ?_
                  refine CJ.seq ?_
                  refine CJ.regionD [2, 3, 4] [0, 1] (by kernel_rfl) rfl ?_
                  refine DJ.norm [_, _, _] [_, _] rfl rfl ?_
                  refine DJ.yd 0 rfl (by kernel_rfl) (by kernel_rfl) (by kernel_rfl) rfl rfl (Yd.mvP rfl) ?_
                  refine DJ.yd 1 rfl (by kernel_rfl) (by kernel_rfl) (by kernel_rfl) rfl rfl (Yd.mvP rfl) ?_
                  refine DJ.yd 2 rfl (by kernel_rfl) (by kernel_rfl) (by kernel_rfl) rfl rfl (Yd.nilCheck rfl) ?_
                  refine DJ.yd 3 rfl (by kernel_rfl) (by kernel_rfl) (by kernel_rfl) rfl rfl (Yd.fieldAddr rfl) ?_
                  refine DJ.yd 5 rfl (by kernel_rfl) (by kernel_rfl) (by kernel_rfl) rfl rfl (Yd.loadG (us := [_, _, _, _]) 2 rfl rfl rfl rfl) ?_
                  refine DJ.two (i := 4) (j := 6) (by kernel_rfl) ?_ ?_
                  · refine DO.yd rfl rfl rfl (fun _ _ _ => Yd.loadC 0 rfl rfl rfl) ?_
                    refine DJ.one (i := 6) (by kernel_rfl) ?_
                    refine DO.op rfl rfl rfl (fun k0 hk0 dk0 => OpR.buildSlice (cs := [_, _, _, _]) rfl rfl) ?_
                    rintro _ _ ⟨b16, rfl, rfl⟩
                    refine DJ.one (i := 7) (by kernel_rfl) ?_
                    refine DO.op rfl rfl rfl (fun k0 hk0 dk0 => OpR.appendT [[_, _, _, _]] 1 2 rfl rfl rfl rfl rfl rfl rfl rfl (by omega)) ?_
                    rintro _ _ ⟨ra167, rc167, rfl, rfl⟩
                    refine DJ.yd 8 rfl (by kernel_rfl) (by kernel_rfl) (by kernel_rfl) rfl rfl (Yd.nilCheck rfl) ?_
                    refine DJ.yd 9 rfl (by kernel_rfl) (by kernel_rfl) (by kernel_rfl) rfl rfl (Yd.fieldAddr rfl) ?_
                    refine DJ.one (i := 10) (by kernel_rfl) ?_
                    refine DO.store (v := .slice _ _ _) (us := [_, _, _]) 0 rfl rfl rfl rfl rfl rfl rfl rfl rfl rfl ?_
                    refine DJ.done (by kernel_rfl) ?_
                    refine CJ.seq ?_
                    refine CJ.region ?_
                    refine LJ.yd rfl (Yd.mvP rfl) ?_
                    refine LJ.yd rfl (Yd.nilCheck rfl) ?_
                    refine LJ.yd rfl (Yd.fieldAddr rfl) ?_
                    refine LJ.yd rfl (Yd.loadC 3 rfl rfl rfl) ?_
                    refine LJ.yd rfl (Yd.len rfl) ?_
                    refine LJ.yd rfl (Yd.sub rfl rfl (by rw [hla]; unfold I64; omega)) ?_
                    refine LJ.yd rfl (Yd.mvB rfl) ?_
                    refine LJ.yd rfl (Yd.build (cs := [_, _, _, _, _]) rfl) ?_
                    refine LJ.store (v := .agg #[_, _, _, _, _]) (us := [_, _, _, _, _]) 0 rfl rfl rfl rfl rfl rfl rfl rfl ?_
                    refine LJ.nil ?_
                    refine CJ.ret ?_
                    have hps2 : (ps ++ [(⟨x, y, decide (x149 = 0), x153⟩ : Pane)]).length ≤ 24 := by simp; omega
                    have hwf2 : ∀ z ∈ ps ++ [(⟨x, y, decide (x149 = 0), x153⟩ : Pane)], z.wf := by
                      intro z hz
                      rcases List.mem_append.1 hz with hz | hz
                      · exact hwf z hz
                      · cases List.mem_singleton.1 hz
                        exact ⟨by simp only [I64]; omega, by simp only [I64]; omega, by simp only [I64]; omega⟩
                    exact Fin.R [_, _, _, _] (Res.one (ResV.cell (us := [_, _, _, _, _]) 0 rfl rfl rfl rfl)) (GrowR.of (ps := ps ++ [⟨x, y, decide (x149 = 0), x153⟩]) (b := BT.p _ _) (by rw [List.map_append]; rfl) (by omega) (by omega) hps2 hwf2 (by have := gF_pos N; simp only [BT.sz, gF]; omega)) (Ent.pickFold [1, 3, 4] [] [0, 2, 5] rfl (fun _ _ => RdT.p (by rw [hla]; unfold I64; omega)))
                  · refine DO.op rfl rfl rfl (fun k0 hk0 dk0 => OpR.buildSlice (cs := [_, _, _, _]) rfl rfl) ?_
                    rintro _ _ ⟨b17, rfl, rfl⟩
                    refine DJ.one (i := 4) (by kernel_rfl) ?_
                    refine DO.yd rfl rfl rfl (fun _ _ _ => Yd.loadC 0 rfl rfl rfl) ?_
                    refine DJ.one (i := 7) (by kernel_rfl) ?_
                    refine DO.op rfl rfl rfl (fun k0 hk0 dk0 => OpR.appendT [[_, _, _, _]] 1 2 rfl rfl rfl rfl rfl rfl rfl rfl (by omega)) ?_
                    rintro _ _ ⟨ra167, rc167, rfl, rfl⟩
                    refine DJ.yd 8 rfl (by kernel_rfl) (by kernel_rfl) (by kernel_rfl) rfl rfl (Yd.nilCheck rfl) ?_
                    refine DJ.yd 9 rfl (by kernel_rfl) (by kernel_rfl) (by kernel_rfl) rfl rfl (Yd.fieldAddr rfl) ?_
                    refine DJ.one (i := 10) (by kernel_rfl) ?_
                    refine DO.store (v := .slice _ _ _) (us := [_, _, _]) 0 rfl rfl rfl rfl rfl rfl rfl rfl rfl rfl ?_
                    refine DJ.done (by kernel_rfl) ?_
                    refine CJ.seq ?_
                    refine CJ.region ?_
                    refine LJ.yd rfl (Yd.mvP rfl) ?_
                    refine LJ.yd rfl (Yd.nilCheck rfl) ?_
                    refine LJ.yd rfl (Yd.fieldAddr rfl) ?_
                    refine LJ.yd rfl (Yd.loadC 3 rfl rfl rfl) ?_
                    refine LJ.yd rfl (Yd.len rfl) ?_
                    refine LJ.yd rfl (Yd.sub rfl rfl (by rw [hla]; unfold I64; omega)) ?_
                    refine LJ.yd rfl (Yd.mvB rfl) ?_
                    refine LJ.yd rfl (Yd.build (cs := [_, _, _, _, _]) rfl) ?_
                    refine LJ.store (v := .agg #[_, _, _, _, _]) (us := [_, _, _, _, _]) 0 rfl rfl rfl rfl rfl rfl rfl rfl ?_
                    refine LJ.nil ?_
                    refine CJ.ret ?_
                    have hps2 : (ps ++ [(⟨x, y, decide (x149 = 0), x153⟩ : Pane)]).length ≤ 24 := by simp; omega
                    have hwf2 : ∀ z ∈ ps ++ [(⟨x, y, decide (x149 = 0), x153⟩ : Pane)], z.wf := by
                      intro z hz
                      rcases List.mem_append.1 hz with hz | hz
                      · exact hwf z hz
                      · cases List.mem_singleton.1 hz
                        exact ⟨by simp only [I64]; omega, by simp only [I64]; omega, by simp only [I64]; omega⟩
                    exact Fin.R [_, _, _, _] (Res.one (ResV.cell (us := [_, _, _, _, _]) 0 rfl rfl rfl rfl)) (GrowR.of (ps := ps ++ [⟨x, y, decide (x149 = 0), x153⟩]) (b := BT.p _ _) (by rw [List.map_append]; rfl) (by omega) (by omega) hps2 hwf2 (by have := gF_pos N; simp only [BT.sz, gF]; omega)) (Ent.pickFold [1, 3, 4] [] [0, 2, 5] rfl (fun _ _ => RdT.p (by rw [hla]; unfold I64; omega)))
end Go.Proofs.Ytfnnhekbgjofoaa
