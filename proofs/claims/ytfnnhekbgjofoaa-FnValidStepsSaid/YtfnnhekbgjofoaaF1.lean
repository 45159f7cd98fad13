/-
  Contracts: plans that are for glass of a size.
-/
import Derived.Test.YtfnnhekbgjofoaaG1
namespace Go.Proofs.Ytfnnhekbgjofoaa
open Go
set_option maxRecDepth 20000
set_option maxHeartbeats 2000000

def paneFit (q : Pane) (t : Bool) (w h : Int) : Bool :=
  if t = true then q.Turns && (!decide (q.W = q.H) && (decide (q.H = w) && decide (q.W = h))) else decide (q.W = w) && decide (q.H = h)
def fitP (ps : List Pane) (i : Int) (t : Bool) (w h : Int) : Bool :=
  decide (0 ≤ i) && (decide (i ≤ ps.length - 1) && match ps[i.toNat]? with | some q => paneFit q t w h | none => false)
def BT.fits (ps : List Pane) : BT → Int → Int → Bool
  | .w, _, _ => true
  | .p i t, x, y => fitP ps i t x y
  | .c d a l r, x, y => if d = true then decide (1 ≤ a) && (decide (a ≤ x - 1) && (l.fits ps a y && r.fits ps (x - a) y))
      else decide (1 ≤ a) && (decide (a ≤ y - 1) && (l.fits ps x a && r.fits ps x (y - a)))
abbrev RdPanes (h : Hp) (v : Value) (ps : List Pane) : Prop := RdRow h 4 v (ps.map Pane.enc)
theorem fitsPlanS_p {A : Amb} {W H i w h : Int} {t : Bool} {v : Value} {ps : List Pane} {a : Option Addr} {c : Nat} (hp : RdPanes A.h v ps) : Ctr Try.prog 91 #[.agg #[vI W, vI H, v], .agg #[vI 1, vI 0, vI i, .bool t, .slice a 0 c], vI w, vI h] A [] (Val (.bool (fitP ps i t w h))) := by
  obtain ⟨⟨sa, sc, rfl, hm, hrow⟩, hlen⟩ := hp
  rw [List.length_map] at hm ⊢
  refine Ctr.body (args := [_, _, _, _]) Try.func91 rfl Try.ntmps91 Try.results91 (by simp) ?_
  refine CJ.seq ?_
  refine CJ.region ?_
  refine LJ.boxG (vs := [_, _, _]) rfl rfl (fun b1 => ?_)
  refine LJ.boxG (vs := [_, _, _, _, _]) rfl rfl (fun b2 => ?_)
  refine LJ.yd rfl (Yd.asB rfl) ?_
  refine LJ.nil ?_
  refine CJ.seq ?_
  refine CJ.seq ?_
  refine CJ.region ?_
  refine LJ.yd rfl (Yd.fieldAddr rfl) ?_
  refine LJ.yd rfl (Yd.loadC 1 rfl rfl rfl) ?_
  refine LJ.nil ?_
  refine CJ.block ?_
  refine CJ.seq ?_
  refine CJ.region ?_
  refine LJ.yd rfl (Yd.cmpT (Yd.eql rfl rfl) (by decide)) ?_
  refine LJ.yd rfl (Yd.asB rfl) ?_
  refine LJ.nil ?_
  refine CJ.condT rfl ?_
  refine CJ.seq ?_
  refine CJ.seq ?_
  refine CJ.region ?_
  refine LJ.yd rfl (Yd.fieldAddr rfl) ?_
  refine LJ.yd rfl (Yd.loadC 1 rfl rfl rfl) ?_
  refine LJ.yd rfl (Yd.fieldAddr rfl) ?_
  refine LJ.yd rfl (Yd.loadC 0 rfl rfl rfl) ?_
  refine LJ.yd rfl (Yd.len rfl) ?_
  refine LJ.yd rfl (Yd.sub rfl rfl (by unfold I64; omega)) ?_
  refine LJ.callB rfl (fun k hk dk => inRange_ok _ _ _ _) (fun h20 => ?_) (fun h20 => ?_)
  · refine LJ.yd rfl (Yd.not rfl) ?_
    refine LJ.nil ?_
    refine CJ.condF rfl ?_
    refine CJ.skip ?_
    refine CJ.seq ?_
    simp only [Bool.and_eq_true, decide_eq_true_eq] at h20
    obtain ⟨hi0, hi1⟩ := h20
    have hlt : i.toNat < ps.length := by omega
    rcases hrow with e | ⟨b, o, rfl, hrow⟩
    · rw [List.map_eq_nil_iff] at e; subst e; simp at hlt
    obtain ⟨q, hq⟩ : ∃ q, ps[i.toNat]? = some q := ⟨_, List.getElem?_eq_getElem hlt⟩
    have hc : (ps.map Pane.enc)[i.toNat]? = some q.enc := by rw [List.getElem?_map, hq]; rfl
    refine CJ.region ?_
    refine LJ.yd rfl (Yd.fieldAddr rfl) ?_
    refine LJ.yd rfl (Yd.loadC 0 rfl rfl rfl) ?_
    refine LJ.yd rfl (Yd.fieldAddr rfl) ?_
    refine LJ.yd rfl (Yd.loadC 1 rfl rfl rfl) ?_
    refine LJ.yd rfl (Yd.indexAddr rfl rfl hi0 (by omega)) ?_
    refine LJ.yd rfl (Yd.loadRow (cs := [vI q.W, vI q.H, .bool q.Turns, vI q.Kind]) (i := i.toNat) hrow rfl rfl hc rfl) ?_
    refine LJ.alloc ([_, _, _, _] : List Value) rfl rfl (fun b3 => ?_)
    refine LJ.store (v := .agg #[_, _, _, _]) (us := [_, _, _, _]) 2 rfl rfl rfl rfl rfl rfl rfl rfl ?_
    refine LJ.nil ?_
    refine CJ.seq ?_
    refine CJ.seq ?_
    refine CJ.region ?_
    refine LJ.yd rfl (Yd.fieldAddr rfl) ?_
    refine LJ.split rfl (Yd.loadC 1 rfl rfl rfl) (fun h29 => ?_) (fun h29 => ?_)
    · refine LJ.nil ?_
      refine CJ.condT rfl ?_
      refine CJ.seq ?_
      refine CJ.region ?_
      refine LJ.yd rfl (Yd.fieldAddr rfl) ?_
      refine LJ.split rfl (Yd.loadC 2 rfl rfl rfl) (fun h31 => ?_) (fun h31 => ?_)
      · refine LJ.yd rfl (Yd.mvB rfl) ?_
        refine LJ.gT rfl ?_
        refine LJ.yd rfl (Yd.fieldAddr rfl) ?_
        refine LJ.gT rfl ?_
        refine LJ.yd rfl (Yd.loadC 2 rfl rfl rfl) ?_
        refine LJ.gT rfl ?_
        refine LJ.yd rfl (Yd.fieldAddr rfl) ?_
        refine LJ.gT rfl ?_
        refine LJ.yd rfl (Yd.loadC 2 rfl rfl rfl) ?_
        refine LJ.gT rfl ?_
        refine LJ.splitN rfl (Yd.neq rfl rfl) (fun h37 => ?_) (fun h37 => ?_)
        · refine LJ.yd rfl (Yd.pickTB rfl rfl) ?_
          refine LJ.yd rfl (Yd.mvB rfl) ?_
          refine LJ.gT rfl ?_
          refine LJ.yd rfl (Yd.fieldAddr rfl) ?_
          refine LJ.gT rfl ?_
          refine LJ.yd rfl (Yd.loadC 2 rfl rfl rfl) ?_
          refine LJ.gT rfl ?_
          refine LJ.yd rfl (Yd.mvI rfl) ?_
          refine LJ.gT rfl ?_
          refine LJ.splitD rfl (Yd.eql rfl rfl) (fun h43 => ?_) (fun h43 => ?_)
          · refine LJ.yd rfl (Yd.pickTB rfl rfl) ?_
            refine LJ.yd rfl (Yd.mvB rfl) ?_
            refine LJ.gT rfl ?_
            refine LJ.yd rfl (Yd.fieldAddr rfl) ?_
            refine LJ.gT rfl ?_
            refine LJ.yd rfl (Yd.loadC 2 rfl rfl rfl) ?_
            refine LJ.gT rfl ?_
            refine LJ.yd rfl (Yd.mvI rfl) ?_
            refine LJ.gT rfl ?_
            refine LJ.yd rfl (Yd.eql rfl rfl) ?_
            refine LJ.yd rfl (Yd.pickTB rfl rfl) ?_
            refine LJ.yd rfl (Yd.asB rfl) ?_
            refine LJ.nil ?_
            refine CJ.ret ?_
            refine Fin.V (Res.one (ResV.tmp (v := .bool _) rfl)) ?_
            first
              | (clear hrow hlen hc; refine congrArg Value.bool ?_; simp_all [fitP, paneFit]; done)
              | (refine congrArg Value.bool ?_; unfold fitP; rw [← Bool.and_assoc, h20, Bool.false_and])
          · refine LJ.yd rfl (Yd.pickTB rfl rfl) ?_
            refine LJ.yd rfl (Yd.mvB rfl) ?_
            refine LJ.gF rfl rfl ?_
            refine LJ.gF rfl rfl ?_
            refine LJ.gF rfl rfl ?_
            refine LJ.gF rfl rfl ?_
            refine LJ.yd rfl (Yd.pickFB rfl rfl) ?_
            refine LJ.yd rfl (Yd.asB rfl) ?_
            refine LJ.nil ?_
            refine CJ.ret ?_
            refine Fin.V (Res.one (ResV.tmp (v := .bool false) rfl)) ?_
            first
              | (clear hrow hlen hc; refine congrArg Value.bool ?_; simp_all [fitP, paneFit]; done)
              | (refine congrArg Value.bool ?_; unfold fitP; rw [← Bool.and_assoc, h20, Bool.false_and])
        · refine LJ.yd rfl (Yd.pickTB rfl rfl) ?_
          refine LJ.yd rfl (Yd.mvB rfl) ?_
          refine LJ.gF rfl rfl ?_
          refine LJ.gF rfl rfl ?_
          refine LJ.gF rfl rfl ?_
          refine LJ.gF rfl rfl ?_
          refine LJ.yd rfl (Yd.pickFB rfl rfl) ?_
          refine LJ.yd rfl (Yd.mvB rfl) ?_
          refine LJ.gF rfl rfl ?_
          refine LJ.gF rfl rfl ?_
          refine LJ.gF rfl rfl ?_
          refine LJ.gF rfl rfl ?_
          refine LJ.yd rfl (Yd.pickFB rfl rfl) ?_
          refine LJ.yd rfl (Yd.asB rfl) ?_
          refine LJ.nil ?_
          refine CJ.ret ?_
          refine Fin.V (Res.one (ResV.tmp (v := .bool false) rfl)) ?_
          first
            | (clear hrow hlen hc; refine congrArg Value.bool ?_; simp_all [fitP, paneFit]; done)
            | (refine congrArg Value.bool ?_; unfold fitP; rw [← Bool.and_assoc, h20, Bool.false_and])
      · refine LJ.yd rfl (Yd.mvB rfl) ?_
        refine LJ.gF rfl rfl ?_
        refine LJ.gF rfl rfl ?_
        refine LJ.gF rfl rfl ?_
        refine LJ.gF rfl rfl ?_
        refine LJ.gF rfl rfl ?_
        refine LJ.yd rfl (Yd.pickFB rfl rfl) ?_
        refine LJ.yd rfl (Yd.mvB rfl) ?_
        refine LJ.gF rfl rfl ?_
        refine LJ.gF rfl rfl ?_
        refine LJ.gF rfl rfl ?_
        refine LJ.gF rfl rfl ?_
        refine LJ.yd rfl (Yd.pickFB rfl rfl) ?_
        refine LJ.yd rfl (Yd.mvB rfl) ?_
        refine LJ.gF rfl rfl ?_
        refine LJ.gF rfl rfl ?_
        refine LJ.gF rfl rfl ?_
        refine LJ.gF rfl rfl ?_
        refine LJ.yd rfl (Yd.pickFB rfl rfl) ?_
        refine LJ.yd rfl (Yd.asB rfl) ?_
        refine LJ.nil ?_
        refine CJ.ret ?_
        refine Fin.V (Res.one (ResV.tmp (v := .bool false) rfl)) ?_
        first
          | (clear hrow hlen hc; refine congrArg Value.bool ?_; simp_all [fitP, paneFit]; done)
          | (refine congrArg Value.bool ?_; unfold fitP; rw [← Bool.and_assoc, h20, Bool.false_and])
    · refine LJ.nil ?_
      refine CJ.condF rfl ?_
      refine CJ.skip ?_
      refine CJ.seq ?_
      refine CJ.region ?_
      refine LJ.yd rfl (Yd.fieldAddr rfl) ?_
      refine LJ.yd rfl (Yd.loadC 2 rfl rfl rfl) ?_
      refine LJ.yd rfl (Yd.mvI rfl) ?_
      refine LJ.splitD rfl (Yd.eql rfl rfl) (fun h54 => ?_) (fun h54 => ?_)
      · refine LJ.yd rfl (Yd.mvB rfl) ?_
        refine LJ.gT rfl ?_
        refine LJ.yd rfl (Yd.fieldAddr rfl) ?_
        refine LJ.gT rfl ?_
        refine LJ.yd rfl (Yd.loadC 2 rfl rfl rfl) ?_
        refine LJ.gT rfl ?_
        refine LJ.yd rfl (Yd.mvI rfl) ?_
        refine LJ.gT rfl ?_
        refine LJ.yd rfl (Yd.eql rfl rfl) ?_
        refine LJ.yd rfl (Yd.pickTB rfl rfl) ?_
        refine LJ.yd rfl (Yd.asB rfl) ?_
        refine LJ.nil ?_
        refine CJ.ret ?_
        refine Fin.V (Res.one (ResV.tmp (v := .bool _) rfl)) ?_
        first
          | (clear hrow hlen hc; refine congrArg Value.bool ?_; simp_all [fitP, paneFit]; done)
          | (refine congrArg Value.bool ?_; unfold fitP; rw [← Bool.and_assoc, h20, Bool.false_and])
      · refine LJ.yd rfl (Yd.mvB rfl) ?_
        refine LJ.gF rfl rfl ?_
        refine LJ.gF rfl rfl ?_
        refine LJ.gF rfl rfl ?_
        refine LJ.gF rfl rfl ?_
        refine LJ.yd rfl (Yd.pickFB rfl rfl) ?_
        refine LJ.yd rfl (Yd.asB rfl) ?_
        refine LJ.nil ?_
        refine CJ.ret ?_
        refine Fin.V (Res.one (ResV.tmp (v := .bool false) rfl)) ?_
        first
          | (clear hrow hlen hc; refine congrArg Value.bool ?_; simp_all [fitP, paneFit]; done)
          | (refine congrArg Value.bool ?_; unfold fitP; rw [← Bool.and_assoc, h20, Bool.false_and])
  · refine LJ.yd rfl (Yd.not rfl) ?_
    refine LJ.nil ?_
    refine CJ.condT rfl ?_
    refine CJ.seq ?_
    refine CJ.region ?_
    refine LJ.yd rfl (Yd.asB rfl) ?_
    refine LJ.nil ?_
    refine CJ.ret ?_
    refine Fin.V (Res.one (ResV.tmp (v := .bool false) rfl)) ?_
    first
      | (clear hrow hlen hc; refine congrArg Value.bool ?_; simp_all [fitP, paneFit]; done)
      | (refine congrArg Value.bool ?_; unfold fitP; rw [← Bool.and_assoc, h20, Bool.false_and])
theorem fitsPlanS_ok (b : BT) : ∀ (A : Amb) (cs : List Value) (W H x y : Int) (v : Value) (ps : List Pane), 0 ≤ x → x ≤ 1000 → 0 ≤ y → y ≤ 1000 → RdPanes A.h v ps → RdT A.h cs b →
    Ctr Try.prog 91 #[.agg #[vI W, vI H, v], .agg cs.toArray, vI x, vI y] A [] (Val (.bool (b.fits ps x y))) := by
  induction b with
  | w =>
    intro A cs W H x y v ps hx0 hx1 hy0 hy1 hp hr
    cases hr
    obtain ⟨⟨sa, sc, rfl, hm, hrow⟩, hlen⟩ := hp
    refine Ctr.body (args := [_, _, _, _]) Try.func91 rfl Try.ntmps91 Try.results91 (by simp) ?_
    refine CJ.seq ?_
    refine CJ.region ?_
    refine LJ.boxG (vs := [_, _, _]) rfl rfl (fun b1 => ?_)
    refine LJ.boxG (vs := [_, _, _, _, _]) rfl rfl (fun b2 => ?_)
    refine LJ.yd rfl (Yd.asB rfl) ?_
    refine LJ.nil ?_
    refine CJ.seq ?_
    refine CJ.seq ?_
    refine CJ.region ?_
    refine LJ.yd rfl (Yd.fieldAddr rfl) ?_
    refine LJ.yd rfl (Yd.loadC 1 rfl rfl rfl) ?_
    refine LJ.nil ?_
    refine CJ.block ?_
    refine CJ.seq ?_
    refine CJ.region ?_
    refine LJ.yd rfl (Yd.cmpF (Yd.eql rfl rfl) (by decide)) ?_
    refine LJ.yd rfl (Yd.asB rfl) ?_
    refine LJ.nil ?_
    refine CJ.condF rfl ?_
    refine CJ.seq ?_
    refine CJ.region ?_
    refine LJ.yd rfl (Yd.cmpF (Yd.eql rfl rfl) (by decide)) ?_
    refine LJ.yd rfl (Yd.asB rfl) ?_
    refine LJ.nil ?_
    refine CJ.condF rfl ?_
    refine CJ.seq ?_
    refine CJ.region ?_
    refine LJ.yd rfl (Yd.cmpF (Yd.eql rfl rfl) (by decide)) ?_
    refine LJ.yd rfl (Yd.asB rfl) ?_
    refine LJ.nil ?_
    refine CJ.condF rfl ?_
    refine CJ.skip ?_
    refine CJ.seq ?_
    refine CJ.region ?_
    refine LJ.yd rfl (Yd.asB rfl) ?_
    refine LJ.nil ?_
    refine CJ.ret ?_
    refine Fin.V (Res.one (ResV.tmp (v := .bool true) rfl)) ?_
    rfl
  | p i t =>
    intro A cs W H x y v ps hx0 hx1 hy0 hy1 hp hr
    cases hr
    exact fitsPlanS_p hp
  | c d a l r ihl ihr =>
    intro A cs W H x y v ps hx0 hx1 hy0 hy1 hp hr
    have hp2 := hp
    obtain ⟨⟨sa, sc, rfl, hm, hrow2⟩, hlen⟩ := hp2
    obtain _ | _ | ⟨ha, hcap, hrow, hl, hr⟩ := hr
    cases d
    · refine Ctr.body (args := [_, _, _, _]) Try.func91 rfl Try.ntmps91 Try.results91 (by simp) ?_
      refine CJ.seq ?_
      refine CJ.region ?_
      refine LJ.boxG (vs := [_, _, _]) rfl rfl (fun b1 => ?_)
      refine LJ.boxG (vs := [_, _, _, _, _]) rfl rfl (fun b2 => ?_)
      refine LJ.yd rfl (Yd.asB rfl) ?_
      refine LJ.nil ?_
      refine CJ.seq ?_
      refine CJ.seq ?_
      refine CJ.region ?_
      refine LJ.yd rfl (Yd.fieldAddr rfl) ?_
      refine LJ.yd rfl (Yd.loadC 1 rfl rfl rfl) ?_
      refine LJ.nil ?_
      refine CJ.block ?_
      refine CJ.seq ?_
      refine CJ.region ?_
      refine LJ.yd rfl (Yd.cmpF (Yd.eql rfl rfl) (by decide)) ?_
      refine LJ.yd rfl (Yd.asB rfl) ?_
      refine LJ.nil ?_
      refine CJ.condF rfl ?_
      refine CJ.seq ?_
      refine CJ.region ?_
      refine LJ.yd rfl (Yd.cmpF (Yd.eql rfl rfl) (by decide)) ?_
      refine LJ.yd rfl (Yd.asB rfl) ?_
      refine LJ.nil ?_
      refine CJ.condF rfl ?_
      refine CJ.seq ?_
      refine CJ.region ?_
      refine LJ.yd rfl (Yd.cmpT (Yd.eql rfl rfl) (by decide)) ?_
      refine LJ.yd rfl (Yd.asB rfl) ?_
      refine LJ.nil ?_
      refine CJ.condT rfl ?_
      refine CJ.seq ?_
      refine CJ.regionD [0, 1] [] (by kernel_rfl) rfl ?_
      refine DJ.norm [_, _] [] rfl rfl ?_
      refine DJ.yd 0 rfl (by kernel_rfl) (by kernel_rfl) (by kernel_rfl) rfl rfl (Yd.fieldAddr rfl) ?_
      refine DJ.yd 1 rfl (by kernel_rfl) (by kernel_rfl) (by kernel_rfl) rfl rfl (Yd.loadC 1 rfl rfl rfl) ?_
      refine DJ.yd 2 rfl (by kernel_rfl) (by kernel_rfl) (by kernel_rfl) rfl rfl (Yd.mvI rfl) ?_
      refine DJ.yd 3 rfl (by kernel_rfl) (by kernel_rfl) (by kernel_rfl) rfl rfl (Yd.sub rfl rfl (by unfold I64; omega)) ?_
      refine DJ.one (i := 4) (by kernel_rfl) ?_
      refine DO.callB rfl rfl rfl (fun k0 hk0 dk0 k hk dk => inRange_ok _ _ _ _) (fun h98 => ?_) (fun h98 => ?_)
      · refine DJ.yd 5 rfl (by kernel_rfl) (by kernel_rfl) (by kernel_rfl) rfl rfl (Yd.mvB rfl) ?_
        refine DJ.yd 6 rfl (by kernel_rfl) (by kernel_rfl) (by kernel_rfl) rfl rfl (Yd.loadG (us := [_, _, _]) 0 rfl rfl rfl rfl) ?_
        refine DJ.yd 7 rfl (by kernel_rfl) (by kernel_rfl) (by kernel_rfl) rfl rfl (Yd.fieldAddr rfl) ?_
        refine DJ.yd 8 rfl (by kernel_rfl) (by kernel_rfl) (by kernel_rfl) rfl rfl (Yd.loadC 1 rfl rfl rfl) ?_
        refine DJ.yd 9 rfl (by kernel_rfl) (by kernel_rfl) (by kernel_rfl) rfl rfl (Yd.indexAddr rfl rfl (by omega) (by simp)) ?_
        refine DJ.yd 10 rfl (by kernel_rfl) (by kernel_rfl) (by kernel_rfl) rfl rfl (Yd.loadRow (i := 0) hrow.up rfl (by simp) rfl hl.len) ?_
        refine DJ.yd 11 rfl (by kernel_rfl) (by kernel_rfl) (by kernel_rfl) rfl rfl (Yd.mvI rfl) ?_
        refine DJ.yd 12 rfl (by kernel_rfl) (by kernel_rfl) (by kernel_rfl) rfl rfl (Yd.fieldAddr rfl) ?_
        refine DJ.yd 13 rfl (by kernel_rfl) (by kernel_rfl) (by kernel_rfl) rfl rfl (Yd.loadC 1 rfl rfl rfl) ?_
        refine DJ.one (i := 14) (by kernel_rfl) ?_
        refine DO.callB rfl rfl rfl (fun k0 hk0 dk0 k hk dk => ihl _ _ _ _ _ _ _ _ hx0 hx1 (by simp at h98; omega) (by simp at h98; omega) hp.up hl.up) (fun h108 => ?_) (fun h108 => ?_)
        · refine DJ.yd 15 rfl (by kernel_rfl) (by kernel_rfl) (by kernel_rfl) rfl rfl (Yd.pickTB rfl rfl) ?_
          refine DJ.yd 16 rfl (by kernel_rfl) (by kernel_rfl) (by kernel_rfl) rfl rfl (Yd.mvB rfl) ?_
          refine DJ.yd 17 rfl (by kernel_rfl) (by kernel_rfl) (by kernel_rfl) rfl rfl (Yd.loadG (us := [_, _, _]) 0 rfl rfl rfl rfl) ?_
          refine DJ.yd 18 rfl (by kernel_rfl) (by kernel_rfl) (by kernel_rfl) rfl rfl (Yd.fieldAddr rfl) ?_
          refine DJ.yd 19 rfl (by kernel_rfl) (by kernel_rfl) (by kernel_rfl) rfl rfl (Yd.loadC 1 rfl rfl rfl) ?_
          refine DJ.yd 20 rfl (by kernel_rfl) (by kernel_rfl) (by kernel_rfl) rfl rfl (Yd.indexAddr rfl rfl (by omega) (by simp)) ?_
          refine DJ.yd 21 rfl (by kernel_rfl) (by kernel_rfl) (by kernel_rfl) rfl rfl (Yd.loadRow (i := 1) hrow.up rfl (by simp) rfl hr.len) ?_
          refine DJ.yd 22 rfl (by kernel_rfl) (by kernel_rfl) (by kernel_rfl) rfl rfl (Yd.mvI rfl) ?_
          refine DJ.yd 23 rfl (by kernel_rfl) (by kernel_rfl) (by kernel_rfl) rfl rfl (Yd.mvI rfl) ?_
          refine DJ.yd 24 rfl (by kernel_rfl) (by kernel_rfl) (by kernel_rfl) rfl rfl (Yd.fieldAddr rfl) ?_
          refine DJ.yd 25 rfl (by kernel_rfl) (by kernel_rfl) (by kernel_rfl) rfl rfl (Yd.loadC 1 rfl rfl rfl) ?_
          refine DJ.yd 26 rfl (by kernel_rfl) (by kernel_rfl) (by kernel_rfl) rfl rfl (Yd.sub rfl rfl (by simp at h98; unfold I64; omega)) ?_
          refine DJ.one (i := 27) (by kernel_rfl) ?_
          refine DO.callB rfl rfl rfl (fun k0 hk0 dk0 k hk dk => ihr _ _ _ _ _ _ _ _ hx0 hx1 (by simp at h98; omega) (by simp at h98; omega) hp.up hr.up) (fun h121 => ?_) (fun h121 => ?_)
          · refine DJ.yd 28 rfl (by kernel_rfl) (by kernel_rfl) (by kernel_rfl) rfl rfl (Yd.pickTB rfl rfl) ?_
            refine DJ.yd 29 rfl (by kernel_rfl) (by kernel_rfl) (by kernel_rfl) rfl rfl (Yd.asB rfl) ?_
            refine DJ.done (by kernel_rfl) ?_
            refine CJ.ret ?_
            refine Fin.V (Res.one (ResV.tmp (v := .bool true) rfl)) ?_
            refine congrArg Value.bool ?_; simp only [BT.fits, Bool.false_eq_true, if_false]; rw [← Bool.and_assoc, h98]; simp [*]
          · refine DJ.yd 28 rfl (by kernel_rfl) (by kernel_rfl) (by kernel_rfl) rfl rfl (Yd.pickTB rfl rfl) ?_
            refine DJ.yd 29 rfl (by kernel_rfl) (by kernel_rfl) (by kernel_rfl) rfl rfl (Yd.asB rfl) ?_
            refine DJ.done (by kernel_rfl) ?_
            refine CJ.ret ?_
            refine Fin.V (Res.one (ResV.tmp (v := .bool false) rfl)) ?_
            refine congrArg Value.bool ?_; simp only [BT.fits, Bool.false_eq_true, if_false]; rw [← Bool.and_assoc, h98]; simp [*]
        · refine DJ.yd 15 rfl (by kernel_rfl) (by kernel_rfl) (by kernel_rfl) rfl rfl (Yd.pickTB rfl rfl) ?_
          refine DJ.yd 16 rfl (by kernel_rfl) (by kernel_rfl) (by kernel_rfl) rfl rfl (Yd.mvB rfl) ?_
          refine DJ.skip 17 rfl (by kernel_rfl) (by kernel_rfl) (by kernel_rfl) rfl rfl ?_
          refine DJ.skip 18 rfl (by kernel_rfl) (by kernel_rfl) (by kernel_rfl) rfl rfl ?_
          refine DJ.skip 19 rfl (by kernel_rfl) (by kernel_rfl) (by kernel_rfl) rfl rfl ?_
          refine DJ.skip 20 rfl (by kernel_rfl) (by kernel_rfl) (by kernel_rfl) rfl rfl ?_
          refine DJ.skip 21 rfl (by kernel_rfl) (by kernel_rfl) (by kernel_rfl) rfl rfl ?_
          refine DJ.skip 22 rfl (by kernel_rfl) (by kernel_rfl) (by kernel_rfl) rfl rfl ?_
          refine DJ.skip 23 rfl (by kernel_rfl) (by kernel_rfl) (by kernel_rfl) rfl rfl ?_
          refine DJ.skip 24 rfl (by kernel_rfl) (by kernel_rfl) (by kernel_rfl) rfl rfl ?_
          refine DJ.skip 25 rfl (by kernel_rfl) (by kernel_rfl) (by kernel_rfl) rfl rfl ?_
          refine DJ.skip 26 rfl (by kernel_rfl) (by kernel_rfl) (by kernel_rfl) rfl rfl ?_
          refine DJ.skip 27 rfl (by kernel_rfl) (by kernel_rfl) (by kernel_rfl) rfl rfl ?_
          refine DJ.yd 28 rfl (by kernel_rfl) (by kernel_rfl) (by kernel_rfl) rfl rfl (Yd.pickFB rfl rfl) ?_
          refine DJ.yd 29 rfl (by kernel_rfl) (by kernel_rfl) (by kernel_rfl) rfl rfl (Yd.asB rfl) ?_
          refine DJ.done (by kernel_rfl) ?_
          refine CJ.ret ?_
          refine Fin.V (Res.one (ResV.tmp (v := .bool false) rfl)) ?_
          refine congrArg Value.bool ?_; simp only [BT.fits, Bool.false_eq_true, if_false]; rw [← Bool.and_assoc, h98]; simp [*]
      · refine DJ.yd 5 rfl (by kernel_rfl) (by kernel_rfl) (by kernel_rfl) rfl rfl (Yd.mvB rfl) ?_
        refine DJ.skip 6 rfl (by kernel_rfl) (by kernel_rfl) (by kernel_rfl) rfl rfl ?_
        refine DJ.skip 7 rfl (by kernel_rfl) (by kernel_rfl) (by kernel_rfl) rfl rfl ?_
        refine DJ.skip 8 rfl (by kernel_rfl) (by kernel_rfl) (by kernel_rfl) rfl rfl ?_
        refine DJ.skip 9 rfl (by kernel_rfl) (by kernel_rfl) (by kernel_rfl) rfl rfl ?_
        refine DJ.skip 10 rfl (by kernel_rfl) (by kernel_rfl) (by kernel_rfl) rfl rfl ?_
        refine DJ.skip 11 rfl (by kernel_rfl) (by kernel_rfl) (by kernel_rfl) rfl rfl ?_
        refine DJ.skip 12 rfl (by kernel_rfl) (by kernel_rfl) (by kernel_rfl) rfl rfl ?_
        refine DJ.skip 13 rfl (by kernel_rfl) (by kernel_rfl) (by kernel_rfl) rfl rfl ?_
        refine DJ.skip 14 rfl (by kernel_rfl) (by kernel_rfl) (by kernel_rfl) rfl rfl ?_
        refine DJ.yd 15 rfl (by kernel_rfl) (by kernel_rfl) (by kernel_rfl) rfl rfl (Yd.pickFB rfl rfl) ?_
        refine DJ.yd 16 rfl (by kernel_rfl) (by kernel_rfl) (by kernel_rfl) rfl rfl (Yd.mvB rfl) ?_
        refine DJ.skip 17 rfl (by kernel_rfl) (by kernel_rfl) (by kernel_rfl) rfl rfl ?_
        refine DJ.skip 18 rfl (by kernel_rfl) (by kernel_rfl) (by kernel_rfl) rfl rfl ?_
        refine DJ.skip 19 rfl (by kernel_rfl) (by kernel_rfl) (by kernel_rfl) rfl rfl ?_
        refine DJ.skip 20 rfl (by kernel_rfl) (by kernel_rfl) (by kernel_rfl) rfl rfl ?_
        refine DJ.skip 21 rfl (by kernel_rfl) (by kernel_rfl) (by kernel_rfl) rfl rfl ?_
        refine DJ.skip 22 rfl (by kernel_rfl) (by kernel_rfl) (by kernel_rfl) rfl rfl ?_
        refine DJ.skip 23 rfl (by kernel_rfl) (by kernel_rfl) (by kernel_rfl) rfl rfl ?_
        refine DJ.skip 24 rfl (by kernel_rfl) (by kernel_rfl) (by kernel_rfl) rfl rfl ?_
        refine DJ.skip 25 rfl (by kernel_rfl) (by kernel_rfl) (by kernel_rfl) rfl rfl ?_
        refine DJ.skip 26 rfl (by kernel_rfl) (by kernel_rfl) (by kernel_rfl) rfl rfl ?_
        refine DJ.skip 27 rfl (by kernel_rfl) (by kernel_rfl) (by kernel_rfl) rfl rfl ?_
        refine DJ.yd 28 rfl (by kernel_rfl) (by kernel_rfl) (by kernel_rfl) rfl rfl (Yd.pickFB rfl rfl) ?_
        refine DJ.yd 29 rfl (by kernel_rfl) (by kernel_rfl) (by kernel_rfl) rfl rfl (Yd.asB rfl) ?_
        refine DJ.done (by kernel_rfl) ?_
        refine CJ.ret ?_
        refine Fin.V (Res.one (ResV.tmp (v := .bool false) rfl)) ?_
        refine congrArg Value.bool ?_; simp only [BT.fits, Bool.false_eq_true, if_false]; rw [← Bool.and_assoc, h98]; simp [*]
    · refine Ctr.body (args := [_, _, _, _]) Try.func91 rfl Try.ntmps91 Try.results91 (by simp) ?_
      refine CJ.seq ?_
      refine CJ.region ?_
      refine LJ.boxG (vs := [_, _, _]) rfl rfl (fun b1 => ?_)
      refine LJ.boxG (vs := [_, _, _, _, _]) rfl rfl (fun b2 => ?_)
      refine LJ.yd rfl (Yd.asB rfl) ?_
      refine LJ.nil ?_
      refine CJ.seq ?_
      refine CJ.seq ?_
      refine CJ.region ?_
      refine LJ.yd rfl (Yd.fieldAddr rfl) ?_
      refine LJ.yd rfl (Yd.loadC 1 rfl rfl rfl) ?_
      refine LJ.nil ?_
      refine CJ.block ?_
      refine CJ.seq ?_
      refine CJ.region ?_
      refine LJ.yd rfl (Yd.cmpF (Yd.eql rfl rfl) (by decide)) ?_
      refine LJ.yd rfl (Yd.asB rfl) ?_
      refine LJ.nil ?_
      refine CJ.condF rfl ?_
      refine CJ.seq ?_
      refine CJ.region ?_
      refine LJ.yd rfl (Yd.cmpT (Yd.eql rfl rfl) (by decide)) ?_
      refine LJ.yd rfl (Yd.asB rfl) ?_
      refine LJ.nil ?_
      refine CJ.condT rfl ?_
      refine CJ.seq ?_
      refine CJ.regionD [0, 1] [] (by kernel_rfl) rfl ?_
      refine DJ.norm [_, _] [] rfl rfl ?_
      refine DJ.yd 0 rfl (by kernel_rfl) (by kernel_rfl) (by kernel_rfl) rfl rfl (Yd.fieldAddr rfl) ?_
      refine DJ.yd 1 rfl (by kernel_rfl) (by kernel_rfl) (by kernel_rfl) rfl rfl (Yd.loadC 1 rfl rfl rfl) ?_
      refine DJ.yd 2 rfl (by kernel_rfl) (by kernel_rfl) (by kernel_rfl) rfl rfl (Yd.mvI rfl) ?_
      refine DJ.yd 3 rfl (by kernel_rfl) (by kernel_rfl) (by kernel_rfl) rfl rfl (Yd.sub rfl rfl (by unfold I64; omega)) ?_
      refine DJ.one (i := 4) (by kernel_rfl) ?_
      refine DO.callB rfl rfl rfl (fun k0 hk0 dk0 k hk dk => inRange_ok _ _ _ _) (fun h67 => ?_) (fun h67 => ?_)
      · refine DJ.yd 5 rfl (by kernel_rfl) (by kernel_rfl) (by kernel_rfl) rfl rfl (Yd.mvB rfl) ?_
        refine DJ.yd 6 rfl (by kernel_rfl) (by kernel_rfl) (by kernel_rfl) rfl rfl (Yd.loadG (us := [_, _, _]) 0 rfl rfl rfl rfl) ?_
        refine DJ.yd 7 rfl (by kernel_rfl) (by kernel_rfl) (by kernel_rfl) rfl rfl (Yd.fieldAddr rfl) ?_
        refine DJ.yd 8 rfl (by kernel_rfl) (by kernel_rfl) (by kernel_rfl) rfl rfl (Yd.loadC 1 rfl rfl rfl) ?_
        refine DJ.yd 9 rfl (by kernel_rfl) (by kernel_rfl) (by kernel_rfl) rfl rfl (Yd.indexAddr rfl rfl (by omega) (by simp)) ?_
        refine DJ.yd 10 rfl (by kernel_rfl) (by kernel_rfl) (by kernel_rfl) rfl rfl (Yd.loadRow (i := 0) hrow.up rfl (by simp) rfl hl.len) ?_
        refine DJ.yd 11 rfl (by kernel_rfl) (by kernel_rfl) (by kernel_rfl) rfl rfl (Yd.fieldAddr rfl) ?_
        refine DJ.yd 12 rfl (by kernel_rfl) (by kernel_rfl) (by kernel_rfl) rfl rfl (Yd.loadC 1 rfl rfl rfl) ?_
        refine DJ.yd 13 rfl (by kernel_rfl) (by kernel_rfl) (by kernel_rfl) rfl rfl (Yd.mvI rfl) ?_
        refine DJ.one (i := 14) (by kernel_rfl) ?_
        refine DO.callB rfl rfl rfl (fun k0 hk0 dk0 k hk dk => ihl _ _ _ _ _ _ _ _ (by simp at h67; omega) (by simp at h67; omega) hy0 hy1 hp.up hl.up) (fun h77 => ?_) (fun h77 => ?_)
        · refine DJ.yd 15 rfl (by kernel_rfl) (by kernel_rfl) (by kernel_rfl) rfl rfl (Yd.pickTB rfl rfl) ?_
          refine DJ.yd 16 rfl (by kernel_rfl) (by kernel_rfl) (by kernel_rfl) rfl rfl (Yd.mvB rfl) ?_
          refine DJ.yd 17 rfl (by kernel_rfl) (by kernel_rfl) (by kernel_rfl) rfl rfl (Yd.loadG (us := [_, _, _]) 0 rfl rfl rfl rfl) ?_
          refine DJ.yd 18 rfl (by kernel_rfl) (by kernel_rfl) (by kernel_rfl) rfl rfl (Yd.fieldAddr rfl) ?_
          refine DJ.yd 19 rfl (by kernel_rfl) (by kernel_rfl) (by kernel_rfl) rfl rfl (Yd.loadC 1 rfl rfl rfl) ?_
          refine DJ.yd 20 rfl (by kernel_rfl) (by kernel_rfl) (by kernel_rfl) rfl rfl (Yd.indexAddr rfl rfl (by omega) (by simp)) ?_
          refine DJ.yd 21 rfl (by kernel_rfl) (by kernel_rfl) (by kernel_rfl) rfl rfl (Yd.loadRow (i := 1) hrow.up rfl (by simp) rfl hr.len) ?_
          refine DJ.yd 22 rfl (by kernel_rfl) (by kernel_rfl) (by kernel_rfl) rfl rfl (Yd.mvI rfl) ?_
          refine DJ.yd 23 rfl (by kernel_rfl) (by kernel_rfl) (by kernel_rfl) rfl rfl (Yd.fieldAddr rfl) ?_
          refine DJ.yd 24 rfl (by kernel_rfl) (by kernel_rfl) (by kernel_rfl) rfl rfl (Yd.loadC 1 rfl rfl rfl) ?_
          refine DJ.yd 25 rfl (by kernel_rfl) (by kernel_rfl) (by kernel_rfl) rfl rfl (Yd.sub rfl rfl (by simp at h67; unfold I64; omega)) ?_
          refine DJ.yd 26 rfl (by kernel_rfl) (by kernel_rfl) (by kernel_rfl) rfl rfl (Yd.mvI rfl) ?_
          refine DJ.one (i := 27) (by kernel_rfl) ?_
          refine DO.callB rfl rfl rfl (fun k0 hk0 dk0 k hk dk => ihr _ _ _ _ _ _ _ _ (by simp at h67; omega) (by simp at h67; omega) hy0 hy1 hp.up hr.up) (fun h90 => ?_) (fun h90 => ?_)
          · refine DJ.yd 28 rfl (by kernel_rfl) (by kernel_rfl) (by kernel_rfl) rfl rfl (Yd.pickTB rfl rfl) ?_
            refine DJ.yd 29 rfl (by kernel_rfl) (by kernel_rfl) (by kernel_rfl) rfl rfl (Yd.asB rfl) ?_
            refine DJ.done (by kernel_rfl) ?_
            refine CJ.ret ?_
            refine Fin.V (Res.one (ResV.tmp (v := .bool true) rfl)) ?_
            refine congrArg Value.bool ?_; simp only [BT.fits, if_true]; rw [← Bool.and_assoc, h67]; simp [*]
          · refine DJ.yd 28 rfl (by kernel_rfl) (by kernel_rfl) (by kernel_rfl) rfl rfl (Yd.pickTB rfl rfl) ?_
            refine DJ.yd 29 rfl (by kernel_rfl) (by kernel_rfl) (by kernel_rfl) rfl rfl (Yd.asB rfl) ?_
            refine DJ.done (by kernel_rfl) ?_
            refine CJ.ret ?_
            refine Fin.V (Res.one (ResV.tmp (v := .bool false) rfl)) ?_
            refine congrArg Value.bool ?_; simp only [BT.fits, if_true]; rw [← Bool.and_assoc, h67]; simp [*]
        · refine DJ.yd 15 rfl (by kernel_rfl) (by kernel_rfl) (by kernel_rfl) rfl rfl (Yd.pickTB rfl rfl) ?_
          refine DJ.yd 16 rfl (by kernel_rfl) (by kernel_rfl) (by kernel_rfl) rfl rfl (Yd.mvB rfl) ?_
          refine DJ.skip 17 rfl (by kernel_rfl) (by kernel_rfl) (by kernel_rfl) rfl rfl ?_
          refine DJ.skip 18 rfl (by kernel_rfl) (by kernel_rfl) (by kernel_rfl) rfl rfl ?_
          refine DJ.skip 19 rfl (by kernel_rfl) (by kernel_rfl) (by kernel_rfl) rfl rfl ?_
          refine DJ.skip 20 rfl (by kernel_rfl) (by kernel_rfl) (by kernel_rfl) rfl rfl ?_
          refine DJ.skip 21 rfl (by kernel_rfl) (by kernel_rfl) (by kernel_rfl) rfl rfl ?_
          refine DJ.skip 22 rfl (by kernel_rfl) (by kernel_rfl) (by kernel_rfl) rfl rfl ?_
          refine DJ.skip 23 rfl (by kernel_rfl) (by kernel_rfl) (by kernel_rfl) rfl rfl ?_
          refine DJ.skip 24 rfl (by kernel_rfl) (by kernel_rfl) (by kernel_rfl) rfl rfl ?_
          refine DJ.skip 25 rfl (by kernel_rfl) (by kernel_rfl) (by kernel_rfl) rfl rfl ?_
          refine DJ.skip 26 rfl (by kernel_rfl) (by kernel_rfl) (by kernel_rfl) rfl rfl ?_
          refine DJ.skip 27 rfl (by kernel_rfl) (by kernel_rfl) (by kernel_rfl) rfl rfl ?_
          refine DJ.yd 28 rfl (by kernel_rfl) (by kernel_rfl) (by kernel_rfl) rfl rfl (Yd.pickFB rfl rfl) ?_
          refine DJ.yd 29 rfl (by kernel_rfl) (by kernel_rfl) (by kernel_rfl) rfl rfl (Yd.asB rfl) ?_
          refine DJ.done (by kernel_rfl) ?_
          refine CJ.ret ?_
          refine Fin.V (Res.one (ResV.tmp (v := .bool false) rfl)) ?_
          refine congrArg Value.bool ?_; simp only [BT.fits, if_true]; rw [← Bool.and_assoc, h67]; simp [*]
      · refine DJ.yd 5 rfl (by kernel_rfl) (by kernel_rfl) (by kernel_rfl) rfl rfl (Yd.mvB rfl) ?_
        refine DJ.skip 6 rfl (by kernel_rfl) (by kernel_rfl) (by kernel_rfl) rfl rfl ?_
        refine DJ.skip 7 rfl (by kernel_rfl) (by kernel_rfl) (by kernel_rfl) rfl rfl ?_
        refine DJ.skip 8 rfl (by kernel_rfl) (by kernel_rfl) (by kernel_rfl) rfl rfl ?_
        refine DJ.skip 9 rfl (by kernel_rfl) (by kernel_rfl) (by kernel_rfl) rfl rfl ?_
        refine DJ.skip 10 rfl (by kernel_rfl) (by kernel_rfl) (by kernel_rfl) rfl rfl ?_
        refine DJ.skip 11 rfl (by kernel_rfl) (by kernel_rfl) (by kernel_rfl) rfl rfl ?_
        refine DJ.skip 12 rfl (by kernel_rfl) (by kernel_rfl) (by kernel_rfl) rfl rfl ?_
        refine DJ.skip 13 rfl (by kernel_rfl) (by kernel_rfl) (by kernel_rfl) rfl rfl ?_
        refine DJ.skip 14 rfl (by kernel_rfl) (by kernel_rfl) (by kernel_rfl) rfl rfl ?_
        refine DJ.yd 15 rfl (by kernel_rfl) (by kernel_rfl) (by kernel_rfl) rfl rfl (Yd.pickFB rfl rfl) ?_
        refine DJ.yd 16 rfl (by kernel_rfl) (by kernel_rfl) (by kernel_rfl) rfl rfl (Yd.mvB rfl) ?_
        refine DJ.skip 17 rfl (by kernel_rfl) (by kernel_rfl) (by kernel_rfl) rfl rfl ?_
        refine DJ.skip 18 rfl (by kernel_rfl) (by kernel_rfl) (by kernel_rfl) rfl rfl ?_
        refine DJ.skip 19 rfl (by kernel_rfl) (by kernel_rfl) (by kernel_rfl) rfl rfl ?_
        refine DJ.skip 20 rfl (by kernel_rfl) (by kernel_rfl) (by kernel_rfl) rfl rfl ?_
        refine DJ.skip 21 rfl (by kernel_rfl) (by kernel_rfl) (by kernel_rfl) rfl rfl ?_
        refine DJ.skip 22 rfl (by kernel_rfl) (by kernel_rfl) (by kernel_rfl) rfl rfl ?_
        refine DJ.skip 23 rfl (by kernel_rfl) (by kernel_rfl) (by kernel_rfl) rfl rfl ?_
        refine DJ.skip 24 rfl (by kernel_rfl) (by kernel_rfl) (by kernel_rfl) rfl rfl ?_
        refine DJ.skip 25 rfl (by kernel_rfl) (by kernel_rfl) (by kernel_rfl) rfl rfl ?_
        refine DJ.skip 26 rfl (by kernel_rfl) (by kernel_rfl) (by kernel_rfl) rfl rfl ?_
        refine DJ.skip 27 rfl (by kernel_rfl) (by kernel_rfl) (by kernel_rfl) rfl rfl ?_
        refine DJ.yd 28 rfl (by kernel_rfl) (by kernel_rfl) (by kernel_rfl) rfl rfl (Yd.pickFB rfl rfl) ?_
        refine DJ.yd 29 rfl (by kernel_rfl) (by kernel_rfl) (by kernel_rfl) rfl rfl (Yd.asB rfl) ?_
        refine DJ.done (by kernel_rfl) ?_
        refine CJ.ret ?_
        refine Fin.V (Res.one (ResV.tmp (v := .bool false) rfl)) ?_
        refine congrArg Value.bool ?_; simp only [BT.fits, if_true]; rw [← Bool.and_assoc, h67]; simp [*]
end Go.Proofs.Ytfnnhekbgjofoaa
