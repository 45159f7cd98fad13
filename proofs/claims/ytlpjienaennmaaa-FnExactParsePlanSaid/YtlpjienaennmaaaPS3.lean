/-
  Plans read from texts: contracts of the program's reader.
-/
import Derived.Test.YtlpjienaennmaaaPS2
import Derived.Test.YtlpjienaennmaaaEP2
import Derived.Test.YtlpjienaennmaaaP2
namespace Go.Proofs.Ytlpjienaennmaaa
open Go
set_option maxRecDepth 20000
set_option maxHeartbeats 1000000

theorem PlO.leaf {o a p : Int} {t : Bool} (ho : I64 o) (ha : I64 a) (hp : I64 p) (h : Hp) : PlO h ⟨o, a, p, t, none, 0, 0⟩ (.mk o a p t []) :=
  .mk (u := ⟨o, a, p, t, none, 0, 0⟩) (ps := []) (h1 := fun _ => none) (h2 := fun _ => none) ho ha hp rfl (by simp) (Row.nil _ _ _) .nil (fun _ => .inr rfl) (Hp.none_le _) (Hp.none_le _)
theorem PlO.foldC {o a : Int} {b : Nat} {u1 u2 : PE} {q1 q2 : Plan} (ho : I64 o) (ha : I64 a) : ∀ h : Hp, Sts [fun m => PlO m u1 q1, fun m => PlO m u2 q2, Cel b 28 (encP u1 ++ encP u2)] h →
    PlO h ⟨o, a, 0, false, some ⟨b, 0, none⟩, 2, 2⟩ (.mk o a 0 false [q1, q2]) := by
  intro h s
  obtain ⟨k1, k2, y1, y2, dj, l1, l2⟩ := (s.perm (perm_pickF _ [2] [0, 1] rfl)).split
  obtain ⟨c1, _, rc, _, _, lc, _⟩ := y1
  obtain ⟨a1, a2, ra, ⟨b1, _, rb, _, _, lb, _⟩, dab, la1, la2⟩ := y2
  have hr : LR encE 28 5 (some ⟨b, 0, none⟩) 2 [(u1, q1), (u2, q2)] c1 := Cel.lr (enc := encE) (k := 5) (m := 2) [(u1, q1), (u2, q2)] rfl rfl rfl rfl rc
  have hs : POs k2 [(u1, q1), (u2, q2)] := .cons (u := (u1, q1)) (h1 := a1) (h2 := b1) ra (.cons (u := (u2, q2)) (h1 := b1) (h2 := fun _ => none) rb .nil (fun _ => .inr rfl) (Hp.Le.refl _) (Hp.none_le _)) (dab.mono (Hp.Le.refl _) lb) la1 (lb.trans la2)
  exact .mk (u := ⟨o, a, 0, false, some ⟨b, 0, none⟩, 2, 2⟩) (ps := [(u1, q1), (u2, q2)]) ho ha (show I64 0 by unfold I64; omega) rfl (by simp) hr hs (dj.mono lc (Hp.Le.refl _)) (lc.trans l1) l2
theorem u8y {c : UInt8} {k : Nat} (hk : k < 256) (h : ((c.toNat : Int) = (k : Int))) : c = UInt8.ofNat k := (u8_eq hk).1 h
theorem u8n {c : UInt8} {k : Nat} (hk : k < 256) (h : ¬ ((c.toNat : Int) = (k : Int))) : c ≠ UInt8.ofNat k := fun e => h ((u8_eq hk).2 e)
def TkR (N : Nat) (s : List UInt8) (v : Value) (gs : List HProp) : Prop := ∃ (u : PE) (b : BT) (r : List UInt8) (ok : Bool), v = .tuple #[.agg (encP u).toArray, vT r, .bool ok] ∧ gs = [fun h => ok = true → PlO h u b.plan] ∧ (ok = true → tkP N s = some (b, r)) ∧ (ok = false → tkP N s = none) ∧ (ok = true → r.length ≤ s.length)
theorem takePlan_ok (N : Nat) : ∀ (A : Amb) (s : List UInt8), s.length < N → s.length ≤ 100000 → Ctr Try.prog 70 #[vT s] A [] (TkR N s) := by
  induction N with
  | zero => intro A s h; omega
  | succ N ih =>
  intro A s hN hs
  refine Ctr.body (args := [_]) Try.func70 rfl Try.ntmps70 Try.results70 (by simp) ?_
  refine CJ.seq ?_
  refine CJ.region ?_
  refine LJ.alloc ([_, _, _, _, _] : List Value) rfl rfl (fun b1 => ?_)
  refine LJ.yd rfl (Yd.asT rfl) ?_
  refine LJ.yd rfl (Yd.asB rfl) ?_
  refine LJ.nil ?_
  refine CJ.seq ?_
  refine CJ.seq ?_
  refine CJ.region ?_
  refine LJ.yd rfl (Yd.mvT rfl) ?_
  refine LJ.splitD rfl (Yd.eqlT rfl rfl) (fun h15 => ?_) (fun h15 => ?_)
  · refine LJ.nil ?_
    refine CJ.condT rfl ?_
    refine CJ.seq ?_
    refine CJ.region ?_
    refine LJ.yd rfl (Yd.build (cs := [_, _, _, _, _]) rfl) ?_
    refine LJ.store (v := .agg #[_, _, _, _, _]) (us := [_, _, _, _, _]) 0 rfl rfl rfl rfl rfl rfl rfl rfl ?_
    refine LJ.yd rfl (Yd.asT rfl) ?_
    refine LJ.yd rfl (Yd.asB rfl) ?_
    refine LJ.nil ?_
    refine CJ.ret ?_
    first
      | exact Fin.R [_] (Res.three (ResV.cell (us := [_, _, _, _, _]) 0 rfl rfl rfl rfl) (ResV.tmp (v := .string _) rfl) (ResV.tmp (v := .bool false) rfl)) ⟨⟨_, _, _, _, _, _, _⟩, .w, _, false, rfl, rfl, fun h => (by cases h), fun _ => (by
          first
            | (rw [h15]; rfl)
            | exact tk_no (u8n (k := 119) (by omega) h22) h30
            | exact tk_x (u8n (k := 119) (by omega) h22) (u8n (k := 112) (by omega) h39) (u8n (k := 116) (by omega) h40) (u8n (k := 100) (by omega) h47) (u8n (k := 97) (by omega) h50)
            | exact tk_c1 h30 hda h56
            | exact tk_c2 h30 hda (hF1 h62)
            | exact tk_c3 h30 hda (hT1 h62) h74
            | exact tk_c4 h30 hda (hT1 h62) (hF2 h80)
            | exact tk_c5 h30 hda (hT1 h62) (hT2 h80) h92), fun h => (by cases h)⟩ (Ent.pure fun _ h => (by cases h))
  · refine LJ.nil ?_
    refine CJ.condF rfl ?_
    refine CJ.skip ?_
    refine CJ.seq ?_
    obtain ⟨c, z, rfl⟩ : ∃ c z, s = c :: z := by
      cases s with
      | nil => exact absurd rfl h15
      | cons c z => exact ⟨c, z, rfl⟩
    rw [List.length_cons] at hN hs
    refine CJ.regionD [0] [] (by kernel_rfl) rfl ?_
    refine DJ.norm [_] [] rfl rfl ?_
    refine DJ.yd 0 rfl (by kernel_rfl) (by kernel_rfl) (by kernel_rfl) rfl rfl (Yd.mvT rfl) ?_
    refine DJ.ixT (i := 1) rfl (by kernel_rfl) (by kernel_rfl) (by kernel_rfl) rfl rfl rfl rfl (by omega) (by rw [List.length_cons]; omega) (fun u18 hu18 => ?_)
    try simp only [Int.toNat_natCast] at hu18
    obtain ⟨ul18, uh18⟩ := u8_b u18
    obtain rfl : c = u18 := by simpa using hu18
    refine DJ.yd 2 rfl (by kernel_rfl) (by kernel_rfl) (by kernel_rfl) rfl rfl (Yd.mvT rfl) ?_
    refine DJ.yd 3 rfl (by kernel_rfl) (by kernel_rfl) (by kernel_rfl) rfl rfl (Yd.slT_l rfl rfl (by omega) (by rw [List.length_cons]; omega)) ?_
    refine DJ.yd 4 rfl (by kernel_rfl) (by kernel_rfl) (by kernel_rfl) rfl rfl (Yd.asI rfl) ?_
    refine DJ.yd 5 rfl (by kernel_rfl) (by kernel_rfl) (by kernel_rfl) rfl rfl (Yd.asT rfl) ?_
    refine DJ.done (by kernel_rfl) ?_
    refine CJ.seq ?_
    refine CJ.seq ?_
    rw [show List.drop (1 : Int).toNat (c :: z) = z from rfl]
    refine CJ.region ?_
    refine LJ.yd rfl (Yd.mvI rfl) ?_
    refine LJ.splitD rfl (Yd.eql rfl rfl) (fun h22 => ?_) (fun h22 => ?_)
    · refine LJ.nil ?_
      refine CJ.condT rfl ?_
      refine CJ.seq ?_
      refine CJ.region ?_
      refine LJ.yd rfl (Yd.build (cs := [_, _, _, _, _]) rfl) ?_
      refine LJ.yd rfl (Yd.mvT rfl) ?_
      refine LJ.store (v := .agg #[_, _, _, _, _]) (us := [_, _, _, _, _]) 0 rfl rfl rfl rfl rfl rfl rfl rfl ?_
      refine LJ.yd rfl (Yd.asT rfl) ?_
      refine LJ.yd rfl (Yd.asB rfl) ?_
      refine LJ.nil ?_
      refine CJ.ret ?_
      exact Fin.R [_] (Res.three (ResV.cell (us := [_, _, _, _, _]) 0 rfl rfl rfl rfl) (ResV.tmp (v := .string _) rfl) (ResV.tmp (v := .bool true) rfl)) ⟨⟨0, 0, 0, false, none, 0, 0⟩, .w, z, true, rfl, rfl, fun _ => by rw [u8y (k := 119) (by omega) h22]; exact tk_w, fun h => (by cases h), fun _ => by simp⟩ (Ent.pure fun _ _ => PlO.leaf (by unfold I64; omega) (by unfold I64; omega) (by unfold I64; omega) _)
    · refine LJ.nil ?_
      refine CJ.condF rfl ?_
      refine CJ.skip ?_
      refine CJ.seq ?_
      refine CJ.region ?_
      refine LJ.yd rfl (Yd.mvT rfl) ?_
      refine LJ.callV rfl (fun k hk dk => takeNumber_ok (by omega)) ?_
      refine LJ.yd rfl (Yd.mvU rfl) ?_
      refine LJ.yd rfl (Yd.extract rfl rfl) ?_
      refine LJ.yd rfl (Yd.extract rfl rfl) ?_
      refine LJ.split rfl (Yd.extract (v := .bool (numOk (z.takeWhile isD))) rfl rfl) (fun h30 => ?_) (fun h30 => ?_)
      · refine LJ.yd rfl (Yd.asI rfl) ?_
        refine LJ.yd rfl (Yd.asT rfl) ?_
        refine LJ.yd rfl (Yd.asB rfl) ?_
        refine LJ.nil ?_
        refine CJ.seq ?_
        refine CJ.seq ?_
        refine CJ.region ?_
        refine LJ.yd rfl (Yd.mvB rfl) ?_
        refine LJ.yd rfl (Yd.not rfl) ?_
        refine LJ.nil ?_
        refine CJ.condF rfl ?_
        refine CJ.skip ?_
        refine CJ.seq ?_
        have hnI : nI (z.takeWhile isD) = (vA 0 (z.takeWhile isD) : Nat) := by rw [nI, if_pos h30]
        have hvl := val_lt h30
        rw [hnI]
        refine CJ.region ?_
        refine LJ.yd rfl (Yd.mvI rfl) ?_
        refine LJ.yd rfl (Yd.build (cs := [_, _, _, _, _]) rfl) ?_
        refine LJ.alloc ([_, _, _, _, _] : List Value) rfl rfl (fun b2 => ?_)
        refine LJ.store (v := .agg #[_, _, _, _, _]) (us := [_, _, _, _, _]) 1 rfl rfl rfl rfl rfl rfl rfl rfl ?_
        refine LJ.nil ?_
        refine CJ.seq ?_
        refine CJ.seq ?_
        refine CJ.region ?_
        refine LJ.yd rfl (Yd.mvI rfl) ?_
        refine LJ.nil ?_
        refine CJ.block ?_
        refine CJ.seq ?_
        refine CJ.seq ?_
        refine CJ.region ?_
        refine LJ.splitD rfl (Yd.eql rfl rfl) (fun h39 => ?_) (fun h39 => ?_)
        · refine LJ.yd rfl (Yd.asB rfl) ?_
          refine LJ.nil ?_
          refine CJ.condT rfl ?_
          refine CJ.skip ?_
          refine CJ.condT rfl ?_
          refine CJ.seq ?_
          have hpt : c = 112 ∨ c = 116 := by first | exact .inl (u8y (k := 112) (by omega) h39) | exact .inr (u8y (k := 116) (by omega) h40)
          have hdt : decide ((c.toNat : Int) = 116) = decide (c = 116) := decide_eq_decide.2 (u8_eq (k := 116) (by omega))
          refine CJ.region ?_
          refine LJ.yd rfl (Yd.mvI rfl) ?_
          refine LJ.yd rfl (Yd.mvI rfl) ?_
          refine LJ.yd rfl (Yd.eql rfl rfl) ?_
          refine LJ.yd rfl (Yd.build (cs := [_, _, _, _, _]) rfl) ?_
          refine LJ.yd rfl (Yd.mvT rfl) ?_
          refine LJ.store (v := .agg #[_, _, _, _, _]) (us := [_, _, _, _, _]) 0 rfl rfl rfl rfl rfl rfl rfl rfl ?_
          refine LJ.yd rfl (Yd.asT rfl) ?_
          refine LJ.yd rfl (Yd.asB rfl) ?_
          refine LJ.nil ?_
          refine CJ.ret ?_
          exact Fin.R [_] (Res.three (ResV.cell (us := [_, _, _, _, _]) 0 rfl rfl rfl rfl) (ResV.tmp (v := .string _) rfl) (ResV.tmp (v := .bool true) rfl)) ⟨⟨1, 0, (vA 0 (z.takeWhile isD) : Nat), decide ((c.toNat : Int) = 116), none, 0, 0⟩, .p (vA 0 (z.takeWhile isD) : Nat) (decide ((c.toNat : Int) = 116)), _, true, rfl, rfl, fun _ => by rw [hdt]; exact tk_p h30 hpt, fun h => (by cases h), fun _ => by have := tw_len z; simp; omega⟩ (Ent.pure fun _ _ => PlO.leaf (by unfold I64; omega) (by unfold I64; omega) (by unfold I64; omega) _)
        · refine LJ.yd rfl (Yd.asB rfl) ?_
          refine LJ.nil ?_
          refine CJ.condF rfl ?_
          refine CJ.region ?_
          refine LJ.splitD rfl (Yd.eql rfl rfl) (fun h40 => ?_) (fun h40 => ?_)
          · refine LJ.yd rfl (Yd.asB rfl) ?_
            refine LJ.nil ?_
            refine CJ.condT rfl ?_
            refine CJ.seq ?_
            have hpt : c = 112 ∨ c = 116 := by first | exact .inl (u8y (k := 112) (by omega) h39) | exact .inr (u8y (k := 116) (by omega) h40)
            have hdt : decide ((c.toNat : Int) = 116) = decide (c = 116) := decide_eq_decide.2 (u8_eq (k := 116) (by omega))
            refine CJ.region ?_
            refine LJ.yd rfl (Yd.mvI rfl) ?_
            refine LJ.yd rfl (Yd.mvI rfl) ?_
            refine LJ.yd rfl (Yd.eql rfl rfl) ?_
            refine LJ.yd rfl (Yd.build (cs := [_, _, _, _, _]) rfl) ?_
            refine LJ.yd rfl (Yd.mvT rfl) ?_
            refine LJ.store (v := .agg #[_, _, _, _, _]) (us := [_, _, _, _, _]) 0 rfl rfl rfl rfl rfl rfl rfl rfl ?_
            refine LJ.yd rfl (Yd.asT rfl) ?_
            refine LJ.yd rfl (Yd.asB rfl) ?_
            refine LJ.nil ?_
            refine CJ.ret ?_
            exact Fin.R [_] (Res.three (ResV.cell (us := [_, _, _, _, _]) 0 rfl rfl rfl rfl) (ResV.tmp (v := .string _) rfl) (ResV.tmp (v := .bool true) rfl)) ⟨⟨1, 0, (vA 0 (z.takeWhile isD) : Nat), decide ((c.toNat : Int) = 116), none, 0, 0⟩, .p (vA 0 (z.takeWhile isD) : Nat) (decide ((c.toNat : Int) = 116)), _, true, rfl, rfl, fun _ => by rw [hdt]; exact tk_p h30 hpt, fun h => (by cases h), fun _ => by have := tw_len z; simp; omega⟩ (Ent.pure fun _ _ => PlO.leaf (by unfold I64; omega) (by unfold I64; omega) (by unfold I64; omega) _)
          · refine LJ.yd rfl (Yd.asB rfl) ?_
            refine LJ.nil ?_
            refine CJ.condF rfl ?_
            refine CJ.seq ?_
            refine CJ.region ?_
            refine LJ.splitD rfl (Yd.eql rfl rfl) (fun h47 => ?_) (fun h47 => ?_)
            · refine LJ.yd rfl (Yd.asB rfl) ?_
              refine LJ.nil ?_
              refine CJ.condT rfl ?_
              refine CJ.region ?_
              refine LJ.yd rfl (Yd.fieldAddr rfl) ?_
              refine LJ.store (v := .int _ _) (us := [_, _, _, _, _]) 1 rfl rfl rfl rfl rfl rfl rfl rfl ?_
              refine LJ.nil ?_
              refine CJ.seq ?_
              have hda : c = 100 ∨ c = 97 := by first | exact .inl (u8y (k := 100) (by omega) h47) | exact .inr (u8y (k := 97) (by omega) h50)
              have htw := tw_len z
              have hcl := cut_len 40 (z.dropWhile isD)
              refine CJ.region ?_
              refine LJ.yd rfl (Yd.mvT rfl) ?_
              refine LJ.callV rfl (fun k hk dk => CutPrefix_ok (by omega)) ?_
              refine LJ.yd rfl (Yd.mvU rfl) ?_
              refine LJ.yd rfl (Yd.extract rfl rfl) ?_
              refine LJ.split rfl (Yd.extract (v := .bool (cut 40 (z.dropWhile isD)).2) rfl rfl) (fun h56 => ?_) (fun h56 => ?_)
              · refine LJ.yd rfl (Yd.asT rfl) ?_
                refine LJ.yd rfl (Yd.asB rfl) ?_
                refine LJ.nil ?_
                refine CJ.seq ?_
                refine CJ.region ?_
                refine LJ.yd rfl (Yd.mvT rfl) ?_
                refine LJ.call0 rfl (fun k hk dk => ih _ _ (by omega) (by omega)) ?_
                rintro _ _ ⟨u1, b1, r1, ok1, rfl, rfl, hT1, hF1, hL1⟩
                refine LJ.yd rfl (Yd.mvU rfl) ?_
                refine LJ.yd rfl (Yd.extract rfl rfl) ?_
                refine LJ.yd rfl (Yd.extract rfl rfl) ?_
                refine LJ.split rfl (Yd.extract (v := .bool ok1) rfl rfl) (fun h62 => ?_) (fun h62 => ?_)
                · refine LJ.alloc ([_, _, _, _, _] : List Value) rfl rfl (fun b3 => ?_)
                  refine LJ.store (v := .agg #[_, _, _, _, _]) (us := [_, _, _, _, _]) 3 rfl rfl rfl rfl rfl rfl rfl rfl ?_
                  refine LJ.yd rfl (Yd.asT rfl) ?_
                  refine LJ.yd rfl (Yd.asB rfl) ?_
                  refine LJ.nil ?_
                  refine CJ.seq ?_
                  refine CJ.seq ?_
                  refine CJ.region ?_
                  refine LJ.yd rfl (Yd.mvB rfl) ?_
                  refine LJ.yd rfl (Yd.not rfl) ?_
                  refine LJ.yd rfl (Yd.mvB rfl) ?_
                  refine LJ.gT rfl ?_
                  refine LJ.yd rfl (Yd.mvB rfl) ?_
                  refine LJ.gT rfl ?_
                  refine LJ.yd rfl (Yd.not rfl) ?_
                  refine LJ.yd rfl (Yd.pickFB rfl rfl) ?_
                  refine LJ.nil ?_
                  refine CJ.condF rfl ?_
                  refine CJ.skip ?_
                  refine CJ.seq ?_
                  refine CJ.imp1 2 rfl (fun _ r => r h62) ?_
                  refine CJ.norm [_, _, _, _] rfl ?_
                  have hL1 := hL1 h62
                  have hcl2 := cut_len 44 r1
                  refine CJ.region ?_
                  refine LJ.yd rfl (Yd.mvT rfl) ?_
                  refine LJ.callV rfl (fun k hk dk => CutPrefix_ok (by omega)) ?_
                  refine LJ.yd rfl (Yd.mvU rfl) ?_
                  refine LJ.yd rfl (Yd.extract rfl rfl) ?_
                  refine LJ.split rfl (Yd.extract (v := .bool (cut 44 r1).2) rfl rfl) (fun h74 => ?_) (fun h74 => ?_)
                  · refine LJ.yd rfl (Yd.asT rfl) ?_
                    refine LJ.yd rfl (Yd.asB rfl) ?_
                    refine LJ.nil ?_
                    refine CJ.seq ?_
                    refine CJ.region ?_
                    refine LJ.yd rfl (Yd.mvT rfl) ?_
                    refine LJ.call0 rfl (fun k hk dk => ih _ _ (by omega) (by omega)) ?_
                    rintro _ _ ⟨u2, b2, r2, ok2, rfl, rfl, hT2, hF2, hL2⟩
                    refine LJ.yd rfl (Yd.mvU rfl) ?_
                    refine LJ.yd rfl (Yd.extract rfl rfl) ?_
                    refine LJ.yd rfl (Yd.extract rfl rfl) ?_
                    refine LJ.split rfl (Yd.extract (v := .bool ok2) rfl rfl) (fun h80 => ?_) (fun h80 => ?_)
                    · refine LJ.alloc ([_, _, _, _, _] : List Value) rfl rfl (fun b4 => ?_)
                      refine LJ.store (v := .agg #[_, _, _, _, _]) (us := [_, _, _, _, _]) 5 rfl rfl rfl rfl rfl rfl rfl rfl ?_
                      refine LJ.yd rfl (Yd.asT rfl) ?_
                      refine LJ.yd rfl (Yd.asB rfl) ?_
                      refine LJ.nil ?_
                      refine CJ.seq ?_
                      refine CJ.seq ?_
                      refine CJ.region ?_
                      refine LJ.yd rfl (Yd.mvB rfl) ?_
                      refine LJ.yd rfl (Yd.not rfl) ?_
                      refine LJ.yd rfl (Yd.mvB rfl) ?_
                      refine LJ.gT rfl ?_
                      refine LJ.yd rfl (Yd.mvB rfl) ?_
                      refine LJ.gT rfl ?_
                      refine LJ.yd rfl (Yd.not rfl) ?_
                      refine LJ.yd rfl (Yd.pickFB rfl rfl) ?_
                      refine LJ.nil ?_
                      refine CJ.condF rfl ?_
                      refine CJ.skip ?_
                      refine CJ.seq ?_
                      refine CJ.imp1 4 rfl (fun _ r => r h80) ?_
                      refine CJ.norm [_, _, _, _, _, _] rfl ?_
                      have hL2 := hL2 h80
                      have hcl3 := cut_len 41 r2
                      refine CJ.region ?_
                      refine LJ.yd rfl (Yd.mvT rfl) ?_
                      refine LJ.callV rfl (fun k hk dk => CutPrefix_ok (by omega)) ?_
                      refine LJ.yd rfl (Yd.mvU rfl) ?_
                      refine LJ.yd rfl (Yd.extract rfl rfl) ?_
                      refine LJ.split rfl (Yd.extract (v := .bool (cut 41 r2).2) rfl rfl) (fun h92 => ?_) (fun h92 => ?_)
                      · refine LJ.yd rfl (Yd.asT rfl) ?_
                        refine LJ.yd rfl (Yd.asB rfl) ?_
                        refine LJ.nil ?_
                        refine CJ.seq ?_
                        refine CJ.region ?_
                        refine LJ.yd rfl (Yd.loadG (us := [_, _, _, _, _]) 3 rfl rfl rfl rfl) ?_
                        refine LJ.yd rfl (Yd.loadG (us := [_, _, _, _, _]) 5 rfl rfl rfl rfl) ?_
                        refine LJ.op rfl (OpR.buildSlice (cs := [_, _, _, _, _, _, _, _, _, _]) rfl rfl) ?_
                        rintro _ _ ⟨b5, rfl, rfl⟩
                        refine LJ.yd rfl (Yd.fieldAddr rfl) ?_
                        refine LJ.store (v := .slice _ _ _) (us := [_, _, _, _, _]) 1 rfl rfl rfl rfl rfl rfl rfl rfl ?_
                        refine LJ.nil ?_
                        refine CJ.seq ?_
                        refine CJ.region ?_
                        refine LJ.yd rfl (Yd.loadG (us := [_, _, _, _, _]) 1 rfl rfl rfl rfl) ?_
                        refine LJ.yd rfl (Yd.mvT rfl) ?_
                        refine LJ.yd rfl (Yd.mvB rfl) ?_
                        refine LJ.store (v := .agg #[_, _, _, _, _]) (us := [_, _, _, _, _]) 0 rfl rfl rfl rfl rfl rfl rfl rfl ?_
                        refine LJ.yd rfl (Yd.asT rfl) ?_
                        refine LJ.yd rfl (Yd.asB rfl) ?_
                        refine LJ.nil ?_
                        refine CJ.ret ?_
                        exact Fin.R [_] (Res.three (ResV.cell (us := [_, _, _, _, _]) 0 rfl rfl rfl rfl) (ResV.tmp (v := .string _) rfl) (ResV.tmp (v := .bool true) rfl)) ⟨⟨opOf true, (vA 0 (z.takeWhile isD) : Nat), 0, false, _, 2, 2⟩, .c true (vA 0 (z.takeWhile isD) : Nat) b1 b2, _, true, rfl, rfl, fun _ => by rw [tk_c6 h30 hda h56 (hT1 h62) h74 (hT2 h80) h92, show decide (c = 100) = true from decide_eq_true (u8y (k := 100) (by omega) h47)], fun h => (by cases h), fun _ => by simp; omega⟩ (Ent.fold [2, 4, 6] [0, 1, 3, 5] rfl fun m s _ => PlO.foldC (by unfold I64 opOf; simp) (by unfold I64; omega) m s)
                      · refine LJ.yd rfl (Yd.asT rfl) ?_
                        refine LJ.yd rfl (Yd.asB rfl) ?_
                        refine LJ.nil ?_
                        refine CJ.seq ?_
                        refine CJ.region ?_
                        refine LJ.yd rfl (Yd.loadG (us := [_, _, _, _, _]) 3 rfl rfl rfl rfl) ?_
                        refine LJ.yd rfl (Yd.loadG (us := [_, _, _, _, _]) 5 rfl rfl rfl rfl) ?_
                        refine LJ.op rfl (OpR.buildSlice (cs := [_, _, _, _, _, _, _, _, _, _]) rfl rfl) ?_
                        rintro _ _ ⟨b6, rfl, rfl⟩
                        refine LJ.yd rfl (Yd.fieldAddr rfl) ?_
                        refine LJ.store (v := .slice _ _ _) (us := [_, _, _, _, _]) 1 rfl rfl rfl rfl rfl rfl rfl rfl ?_
                        refine LJ.nil ?_
                        refine CJ.seq ?_
                        refine CJ.region ?_
                        refine LJ.yd rfl (Yd.loadG (us := [_, _, _, _, _]) 1 rfl rfl rfl rfl) ?_
                        refine LJ.yd rfl (Yd.mvT rfl) ?_
                        refine LJ.yd rfl (Yd.mvB rfl) ?_
                        refine LJ.store (v := .agg #[_, _, _, _, _]) (us := [_, _, _, _, _]) 0 rfl rfl rfl rfl rfl rfl rfl rfl ?_
                        refine LJ.yd rfl (Yd.asT rfl) ?_
                        refine LJ.yd rfl (Yd.asB rfl) ?_
                        refine LJ.nil ?_
                        refine CJ.ret ?_
                        first
                          | exact Fin.R [_] (Res.three (ResV.cell (us := [_, _, _, _, _]) 0 rfl rfl rfl rfl) (ResV.tmp (v := .string _) rfl) (ResV.tmp (v := .bool false) rfl)) ⟨⟨_, _, _, _, _, _, _⟩, .w, _, false, rfl, rfl, fun h => (by cases h), fun _ => (by
                              first
                                | (rw [h15]; rfl)
                                | exact tk_no (u8n (k := 119) (by omega) h22) h30
                                | exact tk_x (u8n (k := 119) (by omega) h22) (u8n (k := 112) (by omega) h39) (u8n (k := 116) (by omega) h40) (u8n (k := 100) (by omega) h47) (u8n (k := 97) (by omega) h50)
                                | exact tk_c1 h30 hda h56
                                | exact tk_c2 h30 hda (hF1 h62)
                                | exact tk_c3 h30 hda (hT1 h62) h74
                                | exact tk_c4 h30 hda (hT1 h62) (hF2 h80)
                                | exact tk_c5 h30 hda (hT1 h62) (hT2 h80) h92), fun h => (by cases h)⟩ (Ent.pure fun _ h => (by cases h))
                    · refine LJ.alloc ([_, _, _, _, _] : List Value) rfl rfl (fun b7 => ?_)
                      refine LJ.store (v := .agg #[_, _, _, _, _]) (us := [_, _, _, _, _]) 5 rfl rfl rfl rfl rfl rfl rfl rfl ?_
                      refine LJ.yd rfl (Yd.asT rfl) ?_
                      refine LJ.yd rfl (Yd.asB rfl) ?_
                      refine LJ.nil ?_
                      refine CJ.seq ?_
                      refine CJ.seq ?_
                      refine CJ.region ?_
                      refine LJ.yd rfl (Yd.mvB rfl) ?_
                      refine LJ.yd rfl (Yd.not rfl) ?_
                      refine LJ.yd rfl (Yd.mvB rfl) ?_
                      refine LJ.gT rfl ?_
                      refine LJ.yd rfl (Yd.mvB rfl) ?_
                      refine LJ.gT rfl ?_
                      refine LJ.yd rfl (Yd.not rfl) ?_
                      refine LJ.yd rfl (Yd.pickFB rfl rfl) ?_
                      refine LJ.nil ?_
                      refine CJ.condT rfl ?_
                      refine CJ.seq ?_
                      refine CJ.region ?_
                      refine LJ.yd rfl (Yd.build (cs := [_, _, _, _, _]) rfl) ?_
                      refine LJ.store (v := .agg #[_, _, _, _, _]) (us := [_, _, _, _, _]) 0 rfl rfl rfl rfl rfl rfl rfl rfl ?_
                      refine LJ.yd rfl (Yd.asT rfl) ?_
                      refine LJ.yd rfl (Yd.asB rfl) ?_
                      refine LJ.nil ?_
                      refine CJ.ret ?_
                      first
                        | exact Fin.R [_] (Res.three (ResV.cell (us := [_, _, _, _, _]) 0 rfl rfl rfl rfl) (ResV.tmp (v := .string _) rfl) (ResV.tmp (v := .bool false) rfl)) ⟨⟨_, _, _, _, _, _, _⟩, .w, _, false, rfl, rfl, fun h => (by cases h), fun _ => (by
                            first
                              | (rw [h15]; rfl)
                              | exact tk_no (u8n (k := 119) (by omega) h22) h30
                              | exact tk_x (u8n (k := 119) (by omega) h22) (u8n (k := 112) (by omega) h39) (u8n (k := 116) (by omega) h40) (u8n (k := 100) (by omega) h47) (u8n (k := 97) (by omega) h50)
                              | exact tk_c1 h30 hda h56
                              | exact tk_c2 h30 hda (hF1 h62)
                              | exact tk_c3 h30 hda (hT1 h62) h74
                              | exact tk_c4 h30 hda (hT1 h62) (hF2 h80)
                              | exact tk_c5 h30 hda (hT1 h62) (hT2 h80) h92), fun h => (by cases h)⟩ (Ent.pure fun _ h => (by cases h))
                  · refine LJ.yd rfl (Yd.asT rfl) ?_
                    refine LJ.yd rfl (Yd.asB rfl) ?_
                    refine LJ.nil ?_
                    refine CJ.seq ?_
                    refine CJ.region ?_
                    refine LJ.yd rfl (Yd.mvT rfl) ?_
                    refine LJ.call0 rfl (fun k hk dk => ih _ _ (by omega) (by omega)) ?_
                    rintro _ _ ⟨u2, b2, r2, ok2, rfl, rfl, hT2, hF2, hL2⟩
                    refine LJ.yd rfl (Yd.mvU rfl) ?_
                    refine LJ.yd rfl (Yd.extract rfl rfl) ?_
                    refine LJ.yd rfl (Yd.extract rfl rfl) ?_
                    refine LJ.split rfl (Yd.extract (v := .bool ok2) rfl rfl) (fun h80 => ?_) (fun h80 => ?_)
                    · refine LJ.alloc ([_, _, _, _, _] : List Value) rfl rfl (fun b8 => ?_)
                      refine LJ.store (v := .agg #[_, _, _, _, _]) (us := [_, _, _, _, _]) 5 rfl rfl rfl rfl rfl rfl rfl rfl ?_
                      refine LJ.yd rfl (Yd.asT rfl) ?_
                      refine LJ.yd rfl (Yd.asB rfl) ?_
                      refine LJ.nil ?_
                      refine CJ.seq ?_
                      refine CJ.seq ?_
                      refine CJ.region ?_
                      refine LJ.yd rfl (Yd.mvB rfl) ?_
                      refine LJ.yd rfl (Yd.not rfl) ?_
                      refine LJ.yd rfl (Yd.mvB rfl) ?_
                      refine LJ.gF rfl rfl ?_
                      refine LJ.gF rfl rfl ?_
                      refine LJ.yd rfl (Yd.pickTB rfl rfl) ?_
                      refine LJ.nil ?_
                      refine CJ.condT rfl ?_
                      refine CJ.seq ?_
                      refine CJ.region ?_
                      refine LJ.yd rfl (Yd.build (cs := [_, _, _, _, _]) rfl) ?_
                      refine LJ.store (v := .agg #[_, _, _, _, _]) (us := [_, _, _, _, _]) 0 rfl rfl rfl rfl rfl rfl rfl rfl ?_
                      refine LJ.yd rfl (Yd.asT rfl) ?_
                      refine LJ.yd rfl (Yd.asB rfl) ?_
                      refine LJ.nil ?_
                      refine CJ.ret ?_
                      first
                        | exact Fin.R [_] (Res.three (ResV.cell (us := [_, _, _, _, _]) 0 rfl rfl rfl rfl) (ResV.tmp (v := .string _) rfl) (ResV.tmp (v := .bool false) rfl)) ⟨⟨_, _, _, _, _, _, _⟩, .w, _, false, rfl, rfl, fun h => (by cases h), fun _ => (by
                            first
                              | (rw [h15]; rfl)
                              | exact tk_no (u8n (k := 119) (by omega) h22) h30
                              | exact tk_x (u8n (k := 119) (by omega) h22) (u8n (k := 112) (by omega) h39) (u8n (k := 116) (by omega) h40) (u8n (k := 100) (by omega) h47) (u8n (k := 97) (by omega) h50)
                              | exact tk_c1 h30 hda h56
                              | exact tk_c2 h30 hda (hF1 h62)
                              | exact tk_c3 h30 hda (hT1 h62) h74
                              | exact tk_c4 h30 hda (hT1 h62) (hF2 h80)
                              | exact tk_c5 h30 hda (hT1 h62) (hT2 h80) h92), fun h => (by cases h)⟩ (Ent.pure fun _ h => (by cases h))
                    · refine LJ.alloc ([_, _, _, _, _] : List Value) rfl rfl (fun b9 => ?_)
                      refine LJ.store (v := .agg #[_, _, _, _, _]) (us := [_, _, _, _, _]) 5 rfl rfl rfl rfl rfl rfl rfl rfl ?_
                      refine LJ.yd rfl (Yd.asT rfl) ?_
                      refine LJ.yd rfl (Yd.asB rfl) ?_
                      refine LJ.nil ?_
                      refine CJ.seq ?_
                      refine CJ.seq ?_
                      refine CJ.region ?_
                      refine LJ.yd rfl (Yd.mvB rfl) ?_
                      refine LJ.yd rfl (Yd.not rfl) ?_
                      refine LJ.yd rfl (Yd.mvB rfl) ?_
                      refine LJ.gF rfl rfl ?_
                      refine LJ.gF rfl rfl ?_
                      refine LJ.yd rfl (Yd.pickTB rfl rfl) ?_
                      refine LJ.nil ?_
                      refine CJ.condT rfl ?_
                      refine CJ.seq ?_
                      refine CJ.region ?_
                      refine LJ.yd rfl (Yd.build (cs := [_, _, _, _, _]) rfl) ?_
                      refine LJ.store (v := .agg #[_, _, _, _, _]) (us := [_, _, _, _, _]) 0 rfl rfl rfl rfl rfl rfl rfl rfl ?_
                      refine LJ.yd rfl (Yd.asT rfl) ?_
                      refine LJ.yd rfl (Yd.asB rfl) ?_
                      refine LJ.nil ?_
                      refine CJ.ret ?_
                      first
                        | exact Fin.R [_] (Res.three (ResV.cell (us := [_, _, _, _, _]) 0 rfl rfl rfl rfl) (ResV.tmp (v := .string _) rfl) (ResV.tmp (v := .bool false) rfl)) ⟨⟨_, _, _, _, _, _, _⟩, .w, _, false, rfl, rfl, fun h => (by cases h), fun _ => (by
                            first
                              | (rw [h15]; rfl)
                              | exact tk_no (u8n (k := 119) (by omega) h22) h30
                              | exact tk_x (u8n (k := 119) (by omega) h22) (u8n (k := 112) (by omega) h39) (u8n (k := 116) (by omega) h40) (u8n (k := 100) (by omega) h47) (u8n (k := 97) (by omega) h50)
                              | exact tk_c1 h30 hda h56
                              | exact tk_c2 h30 hda (hF1 h62)
                              | exact tk_c3 h30 hda (hT1 h62) h74
                              | exact tk_c4 h30 hda (hT1 h62) (hF2 h80)
                              | exact tk_c5 h30 hda (hT1 h62) (hT2 h80) h92), fun h => (by cases h)⟩ (Ent.pure fun _ h => (by cases h))
                · refine LJ.alloc ([_, _, _, _, _] : List Value) rfl rfl (fun b10 => ?_)
                  refine LJ.store (v := .agg #[_, _, _, _, _]) (us := [_, _, _, _, _]) 3 rfl rfl rfl rfl rfl rfl rfl rfl ?_
                  refine LJ.yd rfl (Yd.asT rfl) ?_
                  refine LJ.yd rfl (Yd.asB rfl) ?_
                  refine LJ.nil ?_
                  refine CJ.seq ?_
                  refine CJ.seq ?_
                  refine CJ.region ?_
                  refine LJ.yd rfl (Yd.mvB rfl) ?_
                  refine LJ.yd rfl (Yd.not rfl) ?_
                  refine LJ.yd rfl (Yd.mvB rfl) ?_
                  refine LJ.gT rfl ?_
                  refine LJ.yd rfl (Yd.mvB rfl) ?_
                  refine LJ.gT rfl ?_
                  refine LJ.yd rfl (Yd.not rfl) ?_
                  refine LJ.yd rfl (Yd.pickFB rfl rfl) ?_
                  refine LJ.nil ?_
                  refine CJ.condT rfl ?_
                  refine CJ.seq ?_
                  refine CJ.region ?_
                  refine LJ.yd rfl (Yd.build (cs := [_, _, _, _, _]) rfl) ?_
                  refine LJ.store (v := .agg #[_, _, _, _, _]) (us := [_, _, _, _, _]) 0 rfl rfl rfl rfl rfl rfl rfl rfl ?_
                  refine LJ.yd rfl (Yd.asT rfl) ?_
                  refine LJ.yd rfl (Yd.asB rfl) ?_
                  refine LJ.nil ?_
                  refine CJ.ret ?_
                  first
                    | exact Fin.R [_] (Res.three (ResV.cell (us := [_, _, _, _, _]) 0 rfl rfl rfl rfl) (ResV.tmp (v := .string _) rfl) (ResV.tmp (v := .bool false) rfl)) ⟨⟨_, _, _, _, _, _, _⟩, .w, _, false, rfl, rfl, fun h => (by cases h), fun _ => (by
                        first
                          | (rw [h15]; rfl)
                          | exact tk_no (u8n (k := 119) (by omega) h22) h30
                          | exact tk_x (u8n (k := 119) (by omega) h22) (u8n (k := 112) (by omega) h39) (u8n (k := 116) (by omega) h40) (u8n (k := 100) (by omega) h47) (u8n (k := 97) (by omega) h50)
                          | exact tk_c1 h30 hda h56
                          | exact tk_c2 h30 hda (hF1 h62)
                          | exact tk_c3 h30 hda (hT1 h62) h74
                          | exact tk_c4 h30 hda (hT1 h62) (hF2 h80)
                          | exact tk_c5 h30 hda (hT1 h62) (hT2 h80) h92), fun h => (by cases h)⟩ (Ent.pure fun _ h => (by cases h))
              · refine LJ.yd rfl (Yd.asT rfl) ?_
                refine LJ.yd rfl (Yd.asB rfl) ?_
                refine LJ.nil ?_
                refine CJ.seq ?_
                refine CJ.region ?_
                refine LJ.yd rfl (Yd.mvT rfl) ?_
                refine LJ.call0 rfl (fun k hk dk => ih _ _ (by omega) (by omega)) ?_
                rintro _ _ ⟨u1, b1, r1, ok1, rfl, rfl, hT1, hF1, hL1⟩
                refine LJ.yd rfl (Yd.mvU rfl) ?_
                refine LJ.yd rfl (Yd.extract rfl rfl) ?_
                refine LJ.yd rfl (Yd.extract rfl rfl) ?_
                refine LJ.split rfl (Yd.extract (v := .bool ok1) rfl rfl) (fun h62 => ?_) (fun h62 => ?_)
                · refine LJ.alloc ([_, _, _, _, _] : List Value) rfl rfl (fun b11 => ?_)
                  refine LJ.store (v := .agg #[_, _, _, _, _]) (us := [_, _, _, _, _]) 3 rfl rfl rfl rfl rfl rfl rfl rfl ?_
                  refine LJ.yd rfl (Yd.asT rfl) ?_
                  refine LJ.yd rfl (Yd.asB rfl) ?_
                  refine LJ.nil ?_
                  refine CJ.seq ?_
                  refine CJ.seq ?_
                  refine CJ.region ?_
                  refine LJ.yd rfl (Yd.mvB rfl) ?_
                  refine LJ.yd rfl (Yd.not rfl) ?_
                  refine LJ.yd rfl (Yd.mvB rfl) ?_
                  refine LJ.gF rfl rfl ?_
                  refine LJ.gF rfl rfl ?_
                  refine LJ.yd rfl (Yd.pickTB rfl rfl) ?_
                  refine LJ.nil ?_
                  refine CJ.condT rfl ?_
                  refine CJ.seq ?_
                  refine CJ.region ?_
                  refine LJ.yd rfl (Yd.build (cs := [_, _, _, _, _]) rfl) ?_
                  refine LJ.store (v := .agg #[_, _, _, _, _]) (us := [_, _, _, _, _]) 0 rfl rfl rfl rfl rfl rfl rfl rfl ?_
                  refine LJ.yd rfl (Yd.asT rfl) ?_
                  refine LJ.yd rfl (Yd.asB rfl) ?_
                  refine LJ.nil ?_
                  refine CJ.ret ?_
                  first
                    | exact Fin.R [_] (Res.three (ResV.cell (us := [_, _, _, _, _]) 0 rfl rfl rfl rfl) (ResV.tmp (v := .string _) rfl) (ResV.tmp (v := .bool false) rfl)) ⟨⟨_, _, _, _, _, _, _⟩, .w, _, false, rfl, rfl, fun h => (by cases h), fun _ => (by
                        first
                          | (rw [h15]; rfl)
                          | exact tk_no (u8n (k := 119) (by omega) h22) h30
                          | exact tk_x (u8n (k := 119) (by omega) h22) (u8n (k := 112) (by omega) h39) (u8n (k := 116) (by omega) h40) (u8n (k := 100) (by omega) h47) (u8n (k := 97) (by omega) h50)
                          | exact tk_c1 h30 hda h56
                          | exact tk_c2 h30 hda (hF1 h62)
                          | exact tk_c3 h30 hda (hT1 h62) h74
                          | exact tk_c4 h30 hda (hT1 h62) (hF2 h80)
                          | exact tk_c5 h30 hda (hT1 h62) (hT2 h80) h92), fun h => (by cases h)⟩ (Ent.pure fun _ h => (by cases h))
                · refine LJ.alloc ([_, _, _, _, _] : List Value) rfl rfl (fun b12 => ?_)
                  refine LJ.store (v := .agg #[_, _, _, _, _]) (us := [_, _, _, _, _]) 3 rfl rfl rfl rfl rfl rfl rfl rfl ?_
                  refine LJ.yd rfl (Yd.asT rfl) ?_
                  refine LJ.yd rfl (Yd.asB rfl) ?_
                  refine LJ.nil ?_
                  refine CJ.seq ?_
                  refine CJ.seq ?_
                  refine CJ.region ?_
                  refine LJ.yd rfl (Yd.mvB rfl) ?_
                  refine LJ.yd rfl (Yd.not rfl) ?_
                  refine LJ.yd rfl (Yd.mvB rfl) ?_
                  refine LJ.gF rfl rfl ?_
                  refine LJ.gF rfl rfl ?_
                  refine LJ.yd rfl (Yd.pickTB rfl rfl) ?_
                  refine LJ.nil ?_
                  refine CJ.condT rfl ?_
                  refine CJ.seq ?_
                  refine CJ.region ?_
                  refine LJ.yd rfl (Yd.build (cs := [_, _, _, _, _]) rfl) ?_
                  refine LJ.store (v := .agg #[_, _, _, _, _]) (us := [_, _, _, _, _]) 0 rfl rfl rfl rfl rfl rfl rfl rfl ?_
                  refine LJ.yd rfl (Yd.asT rfl) ?_
                  refine LJ.yd rfl (Yd.asB rfl) ?_
                  refine LJ.nil ?_
                  refine CJ.ret ?_
                  first
                    | exact Fin.R [_] (Res.three (ResV.cell (us := [_, _, _, _, _]) 0 rfl rfl rfl rfl) (ResV.tmp (v := .string _) rfl) (ResV.tmp (v := .bool false) rfl)) ⟨⟨_, _, _, _, _, _, _⟩, .w, _, false, rfl, rfl, fun h => (by cases h), fun _ => (by
                        first
                          | (rw [h15]; rfl)
                          | exact tk_no (u8n (k := 119) (by omega) h22) h30
                          | exact tk_x (u8n (k := 119) (by omega) h22) (u8n (k := 112) (by omega) h39) (u8n (k := 116) (by omega) h40) (u8n (k := 100) (by omega) h47) (u8n (k := 97) (by omega) h50)
                          | exact tk_c1 h30 hda h56
                          | exact tk_c2 h30 hda (hF1 h62)
                          | exact tk_c3 h30 hda (hT1 h62) h74
                          | exact tk_c4 h30 hda (hT1 h62) (hF2 h80)
                          | exact tk_c5 h30 hda (hT1 h62) (hT2 h80) h92), fun h => (by cases h)⟩ (Ent.pure fun _ h => (by cases h))
            · refine LJ.yd rfl (Yd.asB rfl) ?_
              refine LJ.nil ?_
              refine CJ.condF rfl ?_
              refine CJ.seq ?_
              refine CJ.region ?_
              refine LJ.splitD rfl (Yd.eql rfl rfl) (fun h50 => ?_) (fun h50 => ?_)
              · refine LJ.yd rfl (Yd.asB rfl) ?_
                refine LJ.nil ?_
                refine CJ.condT rfl ?_
                refine CJ.region ?_
                refine LJ.yd rfl (Yd.fieldAddr rfl) ?_
                refine LJ.store (v := .int _ _) (us := [_, _, _, _, _]) 1 rfl rfl rfl rfl rfl rfl rfl rfl ?_
                refine LJ.nil ?_
                refine CJ.seq ?_
                have hda : c = 100 ∨ c = 97 := by first | exact .inl (u8y (k := 100) (by omega) h47) | exact .inr (u8y (k := 97) (by omega) h50)
                have htw := tw_len z
                have hcl := cut_len 40 (z.dropWhile isD)
                refine CJ.region ?_
                refine LJ.yd rfl (Yd.mvT rfl) ?_
                refine LJ.callV rfl (fun k hk dk => CutPrefix_ok (by omega)) ?_
                refine LJ.yd rfl (Yd.mvU rfl) ?_
                refine LJ.yd rfl (Yd.extract rfl rfl) ?_
                refine LJ.split rfl (Yd.extract (v := .bool (cut 40 (z.dropWhile isD)).2) rfl rfl) (fun h56 => ?_) (fun h56 => ?_)
                · refine LJ.yd rfl (Yd.asT rfl) ?_
                  refine LJ.yd rfl (Yd.asB rfl) ?_
                  refine LJ.nil ?_
                  refine CJ.seq ?_
                  refine CJ.region ?_
                  refine LJ.yd rfl (Yd.mvT rfl) ?_
                  refine LJ.call0 rfl (fun k hk dk => ih _ _ (by omega) (by omega)) ?_
                  rintro _ _ ⟨u1, b1, r1, ok1, rfl, rfl, hT1, hF1, hL1⟩
                  refine LJ.yd rfl (Yd.mvU rfl) ?_
                  refine LJ.yd rfl (Yd.extract rfl rfl) ?_
                  refine LJ.yd rfl (Yd.extract rfl rfl) ?_
                  refine LJ.split rfl (Yd.extract (v := .bool ok1) rfl rfl) (fun h62 => ?_) (fun h62 => ?_)
                  · refine LJ.alloc ([_, _, _, _, _] : List Value) rfl rfl (fun b13 => ?_)
                    refine LJ.store (v := .agg #[_, _, _, _, _]) (us := [_, _, _, _, _]) 3 rfl rfl rfl rfl rfl rfl rfl rfl ?_
                    refine LJ.yd rfl (Yd.asT rfl) ?_
                    refine LJ.yd rfl (Yd.asB rfl) ?_
                    refine LJ.nil ?_
                    refine CJ.seq ?_
                    refine CJ.seq ?_
                    refine CJ.region ?_
                    refine LJ.yd rfl (Yd.mvB rfl) ?_
                    refine LJ.yd rfl (Yd.not rfl) ?_
                    refine LJ.yd rfl (Yd.mvB rfl) ?_
                    refine LJ.gT rfl ?_
                    refine LJ.yd rfl (Yd.mvB rfl) ?_
                    refine LJ.gT rfl ?_
                    refine LJ.yd rfl (Yd.not rfl) ?_
                    refine LJ.yd rfl (Yd.pickFB rfl rfl) ?_
                    refine LJ.nil ?_
                    refine CJ.condF rfl ?_
                    refine CJ.skip ?_
                    refine CJ.seq ?_
                    refine CJ.imp1 2 rfl (fun _ r => r h62) ?_
                    refine CJ.norm [_, _, _, _] rfl ?_
                    have hL1 := hL1 h62
                    have hcl2 := cut_len 44 r1
                    refine CJ.region ?_
                    refine LJ.yd rfl (Yd.mvT rfl) ?_
                    refine LJ.callV rfl (fun k hk dk => CutPrefix_ok (by omega)) ?_
                    refine LJ.yd rfl (Yd.mvU rfl) ?_
                    refine LJ.yd rfl (Yd.extract rfl rfl) ?_
                    refine LJ.split rfl (Yd.extract (v := .bool (cut 44 r1).2) rfl rfl) (fun h74 => ?_) (fun h74 => ?_)
                    · refine LJ.yd rfl (Yd.asT rfl) ?_
                      refine LJ.yd rfl (Yd.asB rfl) ?_
                      refine LJ.nil ?_
                      refine CJ.seq ?_
                      refine CJ.region ?_
                      refine LJ.yd rfl (Yd.mvT rfl) ?_
                      refine LJ.call0 rfl (fun k hk dk => ih _ _ (by omega) (by omega)) ?_
                      rintro _ _ ⟨u2, b2, r2, ok2, rfl, rfl, hT2, hF2, hL2⟩
                      refine LJ.yd rfl (Yd.mvU rfl) ?_
                      refine LJ.yd rfl (Yd.extract rfl rfl) ?_
                      refine LJ.yd rfl (Yd.extract rfl rfl) ?_
                      refine LJ.split rfl (Yd.extract (v := .bool ok2) rfl rfl) (fun h80 => ?_) (fun h80 => ?_)
                      · refine LJ.alloc ([_, _, _, _, _] : List Value) rfl rfl (fun b14 => ?_)
                        refine LJ.store (v := .agg #[_, _, _, _, _]) (us := [_, _, _, _, _]) 5 rfl rfl rfl rfl rfl rfl rfl rfl ?_
                        refine LJ.yd rfl (Yd.asT rfl) ?_
                        refine LJ.yd rfl (Yd.asB rfl) ?_
                        refine LJ.nil ?_
                        refine CJ.seq ?_
                        refine CJ.seq ?_
                        refine CJ.region ?_
                        refine LJ.yd rfl (Yd.mvB rfl) ?_
                        refine LJ.yd rfl (Yd.not rfl) ?_
                        refine LJ.yd rfl (Yd.mvB rfl) ?_
                        refine LJ.gT rfl ?_
                        refine LJ.yd rfl (Yd.mvB rfl) ?_
                        refine LJ.gT rfl ?_
                        refine LJ.yd rfl (Yd.not rfl) ?_
                        refine LJ.yd rfl (Yd.pickFB rfl rfl) ?_
                        refine LJ.nil ?_
                        refine CJ.condF rfl ?_
                        refine CJ.skip ?_
                        refine CJ.seq ?_
                        refine CJ.imp1 4 rfl (fun _ r => r h80) ?_
                        refine CJ.norm [_, _, _, _, _, _] rfl ?_
                        have hL2 := hL2 h80
                        have hcl3 := cut_len 41 r2
                        refine CJ.region ?_
                        refine LJ.yd rfl (Yd.mvT rfl) ?_
                        refine LJ.callV rfl (fun k hk dk => CutPrefix_ok (by omega)) ?_
                        refine LJ.yd rfl (Yd.mvU rfl) ?_
                        refine LJ.yd rfl (Yd.extract rfl rfl) ?_
                        refine LJ.split rfl (Yd.extract (v := .bool (cut 41 r2).2) rfl rfl) (fun h92 => ?_) (fun h92 => ?_)
                        · refine LJ.yd rfl (Yd.asT rfl) ?_
                          refine LJ.yd rfl (Yd.asB rfl) ?_
                          refine LJ.nil ?_
                          refine CJ.seq ?_
                          refine CJ.region ?_
                          refine LJ.yd rfl (Yd.loadG (us := [_, _, _, _, _]) 3 rfl rfl rfl rfl) ?_
                          refine LJ.yd rfl (Yd.loadG (us := [_, _, _, _, _]) 5 rfl rfl rfl rfl) ?_
                          refine LJ.op rfl (OpR.buildSlice (cs := [_, _, _, _, _, _, _, _, _, _]) rfl rfl) ?_
                          rintro _ _ ⟨b15, rfl, rfl⟩
                          refine LJ.yd rfl (Yd.fieldAddr rfl) ?_
                          refine LJ.store (v := .slice _ _ _) (us := [_, _, _, _, _]) 1 rfl rfl rfl rfl rfl rfl rfl rfl ?_
                          refine LJ.nil ?_
                          refine CJ.seq ?_
                          refine CJ.region ?_
                          refine LJ.yd rfl (Yd.loadG (us := [_, _, _, _, _]) 1 rfl rfl rfl rfl) ?_
                          refine LJ.yd rfl (Yd.mvT rfl) ?_
                          refine LJ.yd rfl (Yd.mvB rfl) ?_
                          refine LJ.store (v := .agg #[_, _, _, _, _]) (us := [_, _, _, _, _]) 0 rfl rfl rfl rfl rfl rfl rfl rfl ?_
                          refine LJ.yd rfl (Yd.asT rfl) ?_
                          refine LJ.yd rfl (Yd.asB rfl) ?_
                          refine LJ.nil ?_
                          refine CJ.ret ?_
                          exact Fin.R [_] (Res.three (ResV.cell (us := [_, _, _, _, _]) 0 rfl rfl rfl rfl) (ResV.tmp (v := .string _) rfl) (ResV.tmp (v := .bool true) rfl)) ⟨⟨opOf false, (vA 0 (z.takeWhile isD) : Nat), 0, false, _, 2, 2⟩, .c false (vA 0 (z.takeWhile isD) : Nat) b1 b2, _, true, rfl, rfl, fun _ => by rw [tk_c6 h30 hda h56 (hT1 h62) h74 (hT2 h80) h92, show decide (c = 100) = false from decide_eq_false (u8n (k := 100) (by omega) h47)], fun h => (by cases h), fun _ => by simp; omega⟩ (Ent.fold [2, 4, 6] [0, 1, 3, 5] rfl fun m s _ => PlO.foldC (by unfold I64 opOf; simp) (by unfold I64; omega) m s)
                        · refine LJ.yd rfl (Yd.asT rfl) ?_
                          refine LJ.yd rfl (Yd.asB rfl) ?_
                          refine LJ.nil ?_
                          refine CJ.seq ?_
                          refine CJ.region ?_
                          refine LJ.yd rfl (Yd.loadG (us := [_, _, _, _, _]) 3 rfl rfl rfl rfl) ?_
                          refine LJ.yd rfl (Yd.loadG (us := [_, _, _, _, _]) 5 rfl rfl rfl rfl) ?_
                          refine LJ.op rfl (OpR.buildSlice (cs := [_, _, _, _, _, _, _, _, _, _]) rfl rfl) ?_
                          rintro _ _ ⟨b16, rfl, rfl⟩
                          refine LJ.yd rfl (Yd.fieldAddr rfl) ?_
                          refine LJ.store (v := .slice _ _ _) (us := [_, _, _, _, _]) 1 rfl rfl rfl rfl rfl rfl rfl rfl ?_
                          refine LJ.nil ?_
                          refine CJ.seq ?_
                          refine CJ.region ?_
                          refine LJ.yd rfl (Yd.loadG (us := [_, _, _, _, _]) 1 rfl rfl rfl rfl) ?_
                          refine LJ.yd rfl (Yd.mvT rfl) ?_
                          refine LJ.yd rfl (Yd.mvB rfl) ?_
                          refine LJ.store (v := .agg #[_, _, _, _, _]) (us := [_, _, _, _, _]) 0 rfl rfl rfl rfl rfl rfl rfl rfl ?_
                          refine LJ.yd rfl (Yd.asT rfl) ?_
                          refine LJ.yd rfl (Yd.asB rfl) ?_
                          refine LJ.nil ?_
                          refine CJ.ret ?_
                          first
                            | exact Fin.R [_] (Res.three (ResV.cell (us := [_, _, _, _, _]) 0 rfl rfl rfl rfl) (ResV.tmp (v := .string _) rfl) (ResV.tmp (v := .bool false) rfl)) ⟨⟨_, _, _, _, _, _, _⟩, .w, _, false, rfl, rfl, fun h => (by cases h), fun _ => (by
                                first
                                  | (rw [h15]; rfl)
                                  | exact tk_no (u8n (k := 119) (by omega) h22) h30
                                  | exact tk_x (u8n (k := 119) (by omega) h22) (u8n (k := 112) (by omega) h39) (u8n (k := 116) (by omega) h40) (u8n (k := 100) (by omega) h47) (u8n (k := 97) (by omega) h50)
                                  | exact tk_c1 h30 hda h56
                                  | exact tk_c2 h30 hda (hF1 h62)
                                  | exact tk_c3 h30 hda (hT1 h62) h74
                                  | exact tk_c4 h30 hda (hT1 h62) (hF2 h80)
                                  | exact tk_c5 h30 hda (hT1 h62) (hT2 h80) h92), fun h => (by cases h)⟩ (Ent.pure fun _ h => (by cases h))
                      · refine LJ.alloc ([_, _, _, _, _] : List Value) rfl rfl (fun b17 => ?_)
                        refine LJ.store (v := .agg #[_, _, _, _, _]) (us := [_, _, _, _, _]) 5 rfl rfl rfl rfl rfl rfl rfl rfl ?_
                        refine LJ.yd rfl (Yd.asT rfl) ?_
                        refine LJ.yd rfl (Yd.asB rfl) ?_
                        refine LJ.nil ?_
                        refine CJ.seq ?_
                        refine CJ.seq ?_
                        refine CJ.region ?_
                        refine LJ.yd rfl (Yd.mvB rfl) ?_
                        refine LJ.yd rfl (Yd.not rfl) ?_
                        refine LJ.yd rfl (Yd.mvB rfl) ?_
                        refine LJ.gT rfl ?_
                        refine LJ.yd rfl (Yd.mvB rfl) ?_
                        refine LJ.gT rfl ?_
                        refine LJ.yd rfl (Yd.not rfl) ?_
                        refine LJ.yd rfl (Yd.pickFB rfl rfl) ?_
                        refine LJ.nil ?_
                        refine CJ.condT rfl ?_
                        refine CJ.seq ?_
                        refine CJ.region ?_
                        refine LJ.yd rfl (Yd.build (cs := [_, _, _, _, _]) rfl) ?_
                        refine LJ.store (v := .agg #[_, _, _, _, _]) (us := [_, _, _, _, _]) 0 rfl rfl rfl rfl rfl rfl rfl rfl ?_
                        refine LJ.yd rfl (Yd.asT rfl) ?_
                        refine LJ.yd rfl (Yd.asB rfl) ?_
                        refine LJ.nil ?_
                        refine CJ.ret ?_
                        first
                          | exact Fin.R [_] (Res.three (ResV.cell (us := [_, _, _, _, _]) 0 rfl rfl rfl rfl) (ResV.tmp (v := .string _) rfl) (ResV.tmp (v := .bool false) rfl)) ⟨⟨_, _, _, _, _, _, _⟩, .w, _, false, rfl, rfl, fun h => (by cases h), fun _ => (by
                              first
                                | (rw [h15]; rfl)
                                | exact tk_no (u8n (k := 119) (by omega) h22) h30
                                | exact tk_x (u8n (k := 119) (by omega) h22) (u8n (k := 112) (by omega) h39) (u8n (k := 116) (by omega) h40) (u8n (k := 100) (by omega) h47) (u8n (k := 97) (by omega) h50)
                                | exact tk_c1 h30 hda h56
                                | exact tk_c2 h30 hda (hF1 h62)
                                | exact tk_c3 h30 hda (hT1 h62) h74
                                | exact tk_c4 h30 hda (hT1 h62) (hF2 h80)
                                | exact tk_c5 h30 hda (hT1 h62) (hT2 h80) h92), fun h => (by cases h)⟩ (Ent.pure fun _ h => (by cases h))
                    · refine LJ.yd rfl (Yd.asT rfl) ?_
                      refine LJ.yd rfl (Yd.asB rfl) ?_
                      refine LJ.nil ?_
                      refine CJ.seq ?_
                      refine CJ.region ?_
                      refine LJ.yd rfl (Yd.mvT rfl) ?_
                      refine LJ.call0 rfl (fun k hk dk => ih _ _ (by omega) (by omega)) ?_
                      rintro _ _ ⟨u2, b2, r2, ok2, rfl, rfl, hT2, hF2, hL2⟩
                      refine LJ.yd rfl (Yd.mvU rfl) ?_
                      refine LJ.yd rfl (Yd.extract rfl rfl) ?_
                      refine LJ.yd rfl (Yd.extract rfl rfl) ?_
                      refine LJ.split rfl (Yd.extract (v := .bool ok2) rfl rfl) (fun h80 => ?_) (fun h80 => ?_)
                      · refine LJ.alloc ([_, _, _, _, _] : List Value) rfl rfl (fun b18 => ?_)
                        refine LJ.store (v := .agg #[_, _, _, _, _]) (us := [_, _, _, _, _]) 5 rfl rfl rfl rfl rfl rfl rfl rfl ?_
                        refine LJ.yd rfl (Yd.asT rfl) ?_
                        refine LJ.yd rfl (Yd.asB rfl) ?_
                        refine LJ.nil ?_
                        refine CJ.seq ?_
                        refine CJ.seq ?_
                        refine CJ.region ?_
                        refine LJ.yd rfl (Yd.mvB rfl) ?_
                        refine LJ.yd rfl (Yd.not rfl) ?_
                        refine LJ.yd rfl (Yd.mvB rfl) ?_
                        refine LJ.gF rfl rfl ?_
                        refine LJ.gF rfl rfl ?_
                        refine LJ.yd rfl (Yd.pickTB rfl rfl) ?_
                        refine LJ.nil ?_
                        refine CJ.condT rfl ?_
                        refine CJ.seq ?_
                        refine CJ.region ?_
                        refine LJ.yd rfl (Yd.build (cs := [_, _, _, _, _]) rfl) ?_
                        refine LJ.store (v := .agg #[_, _, _, _, _]) (us := [_, _, _, _, _]) 0 rfl rfl rfl rfl rfl rfl rfl rfl ?_
                        refine LJ.yd rfl (Yd.asT rfl) ?_
                        refine LJ.yd rfl (Yd.asB rfl) ?_
                        refine LJ.nil ?_
                        refine CJ.ret ?_
                        first
                          | exact Fin.R [_] (Res.three (ResV.cell (us := [_, _, _, _, _]) 0 rfl rfl rfl rfl) (ResV.tmp (v := .string _) rfl) (ResV.tmp (v := .bool false) rfl)) ⟨⟨_, _, _, _, _, _, _⟩, .w, _, false, rfl, rfl, fun h => (by cases h), fun _ => (by
                              first
                                | (rw [h15]; rfl)
                                | exact tk_no (u8n (k := 119) (by omega) h22) h30
                                | exact tk_x (u8n (k := 119) (by omega) h22) (u8n (k := 112) (by omega) h39) (u8n (k := 116) (by omega) h40) (u8n (k := 100) (by omega) h47) (u8n (k := 97) (by omega) h50)
                                | exact tk_c1 h30 hda h56
                                | exact tk_c2 h30 hda (hF1 h62)
                                | exact tk_c3 h30 hda (hT1 h62) h74
                                | exact tk_c4 h30 hda (hT1 h62) (hF2 h80)
                                | exact tk_c5 h30 hda (hT1 h62) (hT2 h80) h92), fun h => (by cases h)⟩ (Ent.pure fun _ h => (by cases h))
                      · refine LJ.alloc ([_, _, _, _, _] : List Value) rfl rfl (fun b19 => ?_)
                        refine LJ.store (v := .agg #[_, _, _, _, _]) (us := [_, _, _, _, _]) 5 rfl rfl rfl rfl rfl rfl rfl rfl ?_
                        refine LJ.yd rfl (Yd.asT rfl) ?_
                        refine LJ.yd rfl (Yd.asB rfl) ?_
                        refine LJ.nil ?_
                        refine CJ.seq ?_
                        refine CJ.seq ?_
                        refine CJ.region ?_
                        refine LJ.yd rfl (Yd.mvB rfl) ?_
                        refine LJ.yd rfl (Yd.not rfl) ?_
                        refine LJ.yd rfl (Yd.mvB rfl) ?_
                        refine LJ.gF rfl rfl ?_
                        refine LJ.gF rfl rfl ?_
                        refine LJ.yd rfl (Yd.pickTB rfl rfl) ?_
                        refine LJ.nil ?_
                        refine CJ.condT rfl ?_
                        refine CJ.seq ?_
                        refine CJ.region ?_
                        refine LJ.yd rfl (Yd.build (cs := [_, _, _, _, _]) rfl) ?_
                        refine LJ.store (v := .agg #[_, _, _, _, _]) (us := [_, _, _, _, _]) 0 rfl rfl rfl rfl rfl rfl rfl rfl ?_
                        refine LJ.yd rfl (Yd.asT rfl) ?_
                        refine LJ.yd rfl (Yd.asB rfl) ?_
                        refine LJ.nil ?_
                        refine CJ.ret ?_
                        first
                          | exact Fin.R [_] (Res.three (ResV.cell (us := [_, _, _, _, _]) 0 rfl rfl rfl rfl) (ResV.tmp (v := .string _) rfl) (ResV.tmp (v := .bool false) rfl)) ⟨⟨_, _, _, _, _, _, _⟩, .w, _, false, rfl, rfl, fun h => (by cases h), fun _ => (by
                              first
                                | (rw [h15]; rfl)
                                | exact tk_no (u8n (k := 119) (by omega) h22) h30
                                | exact tk_x (u8n (k := 119) (by omega) h22) (u8n (k := 112) (by omega) h39) (u8n (k := 116) (by omega) h40) (u8n (k := 100) (by omega) h47) (u8n (k := 97) (by omega) h50)
                                | exact tk_c1 h30 hda h56
                                | exact tk_c2 h30 hda (hF1 h62)
                                | exact tk_c3 h30 hda (hT1 h62) h74
                                | exact tk_c4 h30 hda (hT1 h62) (hF2 h80)
                                | exact tk_c5 h30 hda (hT1 h62) (hT2 h80) h92), fun h => (by cases h)⟩ (Ent.pure fun _ h => (by cases h))
                  · refine LJ.alloc ([_, _, _, _, _] : List Value) rfl rfl (fun b20 => ?_)
                    refine LJ.store (v := .agg #[_, _, _, _, _]) (us := [_, _, _, _, _]) 3 rfl rfl rfl rfl rfl rfl rfl rfl ?_
                    refine LJ.yd rfl (Yd.asT rfl) ?_
                    refine LJ.yd rfl (Yd.asB rfl) ?_
                    refine LJ.nil ?_
                    refine CJ.seq ?_
                    refine CJ.seq ?_
                    refine CJ.region ?_
                    refine LJ.yd rfl (Yd.mvB rfl) ?_
                    refine LJ.yd rfl (Yd.not rfl) ?_
                    refine LJ.yd rfl (Yd.mvB rfl) ?_
                    refine LJ.gT rfl ?_
                    refine LJ.yd rfl (Yd.mvB rfl) ?_
                    refine LJ.gT rfl ?_
                    refine LJ.yd rfl (Yd.not rfl) ?_
                    refine LJ.yd rfl (Yd.pickFB rfl rfl) ?_
                    refine LJ.nil ?_
                    refine CJ.condT rfl ?_
                    refine CJ.seq ?_
                    refine CJ.region ?_
                    refine LJ.yd rfl (Yd.build (cs := [_, _, _, _, _]) rfl) ?_
                    refine LJ.store (v := .agg #[_, _, _, _, _]) (us := [_, _, _, _, _]) 0 rfl rfl rfl rfl rfl rfl rfl rfl ?_
                    refine LJ.yd rfl (Yd.asT rfl) ?_
                    refine LJ.yd rfl (Yd.asB rfl) ?_
                    refine LJ.nil ?_
                    refine CJ.ret ?_
                    first
                      | exact Fin.R [_] (Res.three (ResV.cell (us := [_, _, _, _, _]) 0 rfl rfl rfl rfl) (ResV.tmp (v := .string _) rfl) (ResV.tmp (v := .bool false) rfl)) ⟨⟨_, _, _, _, _, _, _⟩, .w, _, false, rfl, rfl, fun h => (by cases h), fun _ => (by
                          first
                            | (rw [h15]; rfl)
                            | exact tk_no (u8n (k := 119) (by omega) h22) h30
                            | exact tk_x (u8n (k := 119) (by omega) h22) (u8n (k := 112) (by omega) h39) (u8n (k := 116) (by omega) h40) (u8n (k := 100) (by omega) h47) (u8n (k := 97) (by omega) h50)
                            | exact tk_c1 h30 hda h56
                            | exact tk_c2 h30 hda (hF1 h62)
                            | exact tk_c3 h30 hda (hT1 h62) h74
                            | exact tk_c4 h30 hda (hT1 h62) (hF2 h80)
                            | exact tk_c5 h30 hda (hT1 h62) (hT2 h80) h92), fun h => (by cases h)⟩ (Ent.pure fun _ h => (by cases h))
                · refine LJ.yd rfl (Yd.asT rfl) ?_
                  refine LJ.yd rfl (Yd.asB rfl) ?_
                  refine LJ.nil ?_
                  refine CJ.seq ?_
                  refine CJ.region ?_
                  refine LJ.yd rfl (Yd.mvT rfl) ?_
                  refine LJ.call0 rfl (fun k hk dk => ih _ _ (by omega) (by omega)) ?_
                  rintro _ _ ⟨u1, b1, r1, ok1, rfl, rfl, hT1, hF1, hL1⟩
                  refine LJ.yd rfl (Yd.mvU rfl) ?_
                  refine LJ.yd rfl (Yd.extract rfl rfl) ?_
                  refine LJ.yd rfl (Yd.extract rfl rfl) ?_
                  refine LJ.split rfl (Yd.extract (v := .bool ok1) rfl rfl) (fun h62 => ?_) (fun h62 => ?_)
                  · refine LJ.alloc ([_, _, _, _, _] : List Value) rfl rfl (fun b21 => ?_)
                    refine LJ.store (v := .agg #[_, _, _, _, _]) (us := [_, _, _, _, _]) 3 rfl rfl rfl rfl rfl rfl rfl rfl ?_
                    refine LJ.yd rfl (Yd.asT rfl) ?_
                    refine LJ.yd rfl (Yd.asB rfl) ?_
                    refine LJ.nil ?_
                    refine CJ.seq ?_
                    refine CJ.seq ?_
                    refine CJ.region ?_
                    refine LJ.yd rfl (Yd.mvB rfl) ?_
                    refine LJ.yd rfl (Yd.not rfl) ?_
                    refine LJ.yd rfl (Yd.mvB rfl) ?_
                    refine LJ.gF rfl rfl ?_
                    refine LJ.gF rfl rfl ?_
                    refine LJ.yd rfl (Yd.pickTB rfl rfl) ?_
                    refine LJ.nil ?_
                    refine CJ.condT rfl ?_
                    refine CJ.seq ?_
                    refine CJ.region ?_
                    refine LJ.yd rfl (Yd.build (cs := [_, _, _, _, _]) rfl) ?_
                    refine LJ.store (v := .agg #[_, _, _, _, _]) (us := [_, _, _, _, _]) 0 rfl rfl rfl rfl rfl rfl rfl rfl ?_
                    refine LJ.yd rfl (Yd.asT rfl) ?_
                    refine LJ.yd rfl (Yd.asB rfl) ?_
                    refine LJ.nil ?_
                    refine CJ.ret ?_
                    first
                      | exact Fin.R [_] (Res.three (ResV.cell (us := [_, _, _, _, _]) 0 rfl rfl rfl rfl) (ResV.tmp (v := .string _) rfl) (ResV.tmp (v := .bool false) rfl)) ⟨⟨_, _, _, _, _, _, _⟩, .w, _, false, rfl, rfl, fun h => (by cases h), fun _ => (by
                          first
                            | (rw [h15]; rfl)
                            | exact tk_no (u8n (k := 119) (by omega) h22) h30
                            | exact tk_x (u8n (k := 119) (by omega) h22) (u8n (k := 112) (by omega) h39) (u8n (k := 116) (by omega) h40) (u8n (k := 100) (by omega) h47) (u8n (k := 97) (by omega) h50)
                            | exact tk_c1 h30 hda h56
                            | exact tk_c2 h30 hda (hF1 h62)
                            | exact tk_c3 h30 hda (hT1 h62) h74
                            | exact tk_c4 h30 hda (hT1 h62) (hF2 h80)
                            | exact tk_c5 h30 hda (hT1 h62) (hT2 h80) h92), fun h => (by cases h)⟩ (Ent.pure fun _ h => (by cases h))
                  · refine LJ.alloc ([_, _, _, _, _] : List Value) rfl rfl (fun b22 => ?_)
                    refine LJ.store (v := .agg #[_, _, _, _, _]) (us := [_, _, _, _, _]) 3 rfl rfl rfl rfl rfl rfl rfl rfl ?_
                    refine LJ.yd rfl (Yd.asT rfl) ?_
                    refine LJ.yd rfl (Yd.asB rfl) ?_
                    refine LJ.nil ?_
                    refine CJ.seq ?_
                    refine CJ.seq ?_
                    refine CJ.region ?_
                    refine LJ.yd rfl (Yd.mvB rfl) ?_
                    refine LJ.yd rfl (Yd.not rfl) ?_
                    refine LJ.yd rfl (Yd.mvB rfl) ?_
                    refine LJ.gF rfl rfl ?_
                    refine LJ.gF rfl rfl ?_
                    refine LJ.yd rfl (Yd.pickTB rfl rfl) ?_
                    refine LJ.nil ?_
                    refine CJ.condT rfl ?_
                    refine CJ.seq ?_
                    refine CJ.region ?_
                    refine LJ.yd rfl (Yd.build (cs := [_, _, _, _, _]) rfl) ?_
                    refine LJ.store (v := .agg #[_, _, _, _, _]) (us := [_, _, _, _, _]) 0 rfl rfl rfl rfl rfl rfl rfl rfl ?_
                    refine LJ.yd rfl (Yd.asT rfl) ?_
                    refine LJ.yd rfl (Yd.asB rfl) ?_
                    refine LJ.nil ?_
                    refine CJ.ret ?_
                    first
                      | exact Fin.R [_] (Res.three (ResV.cell (us := [_, _, _, _, _]) 0 rfl rfl rfl rfl) (ResV.tmp (v := .string _) rfl) (ResV.tmp (v := .bool false) rfl)) ⟨⟨_, _, _, _, _, _, _⟩, .w, _, false, rfl, rfl, fun h => (by cases h), fun _ => (by
                          first
                            | (rw [h15]; rfl)
                            | exact tk_no (u8n (k := 119) (by omega) h22) h30
                            | exact tk_x (u8n (k := 119) (by omega) h22) (u8n (k := 112) (by omega) h39) (u8n (k := 116) (by omega) h40) (u8n (k := 100) (by omega) h47) (u8n (k := 97) (by omega) h50)
                            | exact tk_c1 h30 hda h56
                            | exact tk_c2 h30 hda (hF1 h62)
                            | exact tk_c3 h30 hda (hT1 h62) h74
                            | exact tk_c4 h30 hda (hT1 h62) (hF2 h80)
                            | exact tk_c5 h30 hda (hT1 h62) (hT2 h80) h92), fun h => (by cases h)⟩ (Ent.pure fun _ h => (by cases h))
              · refine LJ.yd rfl (Yd.asB rfl) ?_
                refine LJ.nil ?_
                refine CJ.condF rfl ?_
                refine CJ.seq ?_
                refine CJ.region ?_
                refine LJ.yd rfl (Yd.build (cs := [_, _, _, _, _]) rfl) ?_
                refine LJ.store (v := .agg #[_, _, _, _, _]) (us := [_, _, _, _, _]) 0 rfl rfl rfl rfl rfl rfl rfl rfl ?_
                refine LJ.yd rfl (Yd.asT rfl) ?_
                refine LJ.yd rfl (Yd.asB rfl) ?_
                refine LJ.nil ?_
                refine CJ.ret ?_
                first
                  | exact Fin.R [_] (Res.three (ResV.cell (us := [_, _, _, _, _]) 0 rfl rfl rfl rfl) (ResV.tmp (v := .string _) rfl) (ResV.tmp (v := .bool false) rfl)) ⟨⟨_, _, _, _, _, _, _⟩, .w, _, false, rfl, rfl, fun h => (by cases h), fun _ => (by
                      first
                        | (rw [h15]; rfl)
                        | exact tk_no (u8n (k := 119) (by omega) h22) h30
                        | exact tk_x (u8n (k := 119) (by omega) h22) (u8n (k := 112) (by omega) h39) (u8n (k := 116) (by omega) h40) (u8n (k := 100) (by omega) h47) (u8n (k := 97) (by omega) h50)
                        | exact tk_c1 h30 hda h56
                        | exact tk_c2 h30 hda (hF1 h62)
                        | exact tk_c3 h30 hda (hT1 h62) h74
                        | exact tk_c4 h30 hda (hT1 h62) (hF2 h80)
                        | exact tk_c5 h30 hda (hT1 h62) (hT2 h80) h92), fun h => (by cases h)⟩ (Ent.pure fun _ h => (by cases h))
      · refine LJ.yd rfl (Yd.asI rfl) ?_
        refine LJ.yd rfl (Yd.asT rfl) ?_
        refine LJ.yd rfl (Yd.asB rfl) ?_
        refine LJ.nil ?_
        refine CJ.seq ?_
        refine CJ.seq ?_
        refine CJ.region ?_
        refine LJ.yd rfl (Yd.mvB rfl) ?_
        refine LJ.yd rfl (Yd.not rfl) ?_
        refine LJ.nil ?_
        refine CJ.condT rfl ?_
        refine CJ.seq ?_
        refine CJ.region ?_
        refine LJ.yd rfl (Yd.build (cs := [_, _, _, _, _]) rfl) ?_
        refine LJ.store (v := .agg #[_, _, _, _, _]) (us := [_, _, _, _, _]) 0 rfl rfl rfl rfl rfl rfl rfl rfl ?_
        refine LJ.yd rfl (Yd.asT rfl) ?_
        refine LJ.yd rfl (Yd.asB rfl) ?_
        refine LJ.nil ?_
        refine CJ.ret ?_
        first
          | exact Fin.R [_] (Res.three (ResV.cell (us := [_, _, _, _, _]) 0 rfl rfl rfl rfl) (ResV.tmp (v := .string _) rfl) (ResV.tmp (v := .bool false) rfl)) ⟨⟨_, _, _, _, _, _, _⟩, .w, _, false, rfl, rfl, fun h => (by cases h), fun _ => (by
              first
                | (rw [h15]; rfl)
                | exact tk_no (u8n (k := 119) (by omega) h22) h30
                | exact tk_x (u8n (k := 119) (by omega) h22) (u8n (k := 112) (by omega) h39) (u8n (k := 116) (by omega) h40) (u8n (k := 100) (by omega) h47) (u8n (k := 97) (by omega) h50)
                | exact tk_c1 h30 hda h56
                | exact tk_c2 h30 hda (hF1 h62)
                | exact tk_c3 h30 hda (hT1 h62) h74
                | exact tk_c4 h30 hda (hT1 h62) (hF2 h80)
                | exact tk_c5 h30 hda (hT1 h62) (hT2 h80) h92), fun h => (by cases h)⟩ (Ent.pure fun _ h => (by cases h))
/-! ## numbers in range -/
mutual
def cnP : Plan → Bool
  | .mk _ a p _ k => ((decide (0 ≤ a) && decide (a ≤ 200)) && (decide (0 ≤ p) && decide (p ≤ 24))) && cnPs k
def cnPs : List Plan → Bool
  | [] => true
  | q :: r => cnP q && cnPs r
end
theorem cnPs_snoc : ∀ (L : List Plan) (q : Plan), cnPs (L ++ [q]) = (cnPs L && cnP q)
  | [], q => by simp [cnPs]
  | x :: r, q => by rw [List.cons_append, cnPs, cnPs, cnPs_snoc r, Bool.and_assoc]
theorem cnPs_mem : ∀ {L : List Plan} {q : Plan}, q ∈ L → cnP q = false → cnPs L = false
  | x :: r, q, hq, h => by
    rcases List.mem_cons.1 hq with rfl | hq
    · rw [cnPs, h]; rfl
    · rw [cnPs, cnPs_mem hq h, Bool.and_false]
theorem cnP_BT : ∀ b : BT, cnP b.plan = b.cntb
  | .w => by simp [BT.plan, cnP, cnPs, BT.cntb]
  | .p i t => by simp [BT.plan, cnP, cnPs, BT.cntb]
  | .c d a l r => by
    simp only [BT.plan, cnP, cnPs, cnP_BT l, cnP_BT r, BT.cntb]
    simp
theorem numbersFit_ok' (N : Nat) : ∀ (q : Plan), SizeOf.sizeOf q < N → ∀ (u : PE) (B : Amb), RdPlan B.h (encP u) q → Ctr Try.prog 71 #[.agg (encP u).toArray] B [] (Val (.bool (cnP q))) := by
  induction N with
  | zero => intro q h; omega
  | succ N ih =>
  intro q hN u B hq
  obtain ⟨es, kids, e, hl, hkk, hn, ho, ha, hp⟩ := hq.kidsL
  obtain ⟨uo, ua, up2, ut, ux, un, uc⟩ := u
  dsimp only at e hl hn ho ha hp
  subst e
  have hkl := hkk.length
  rw [List.length_map] at hkl
  have hmem : ∀ q ∈ kids, SizeOf.sizeOf q < N := fun q hm => by
    have h1 := List.sizeOf_lt_of_mem hm
    simp only [Plan.mk.sizeOf_spec] at hN
    omega
  have hll := hl.len
  subst hn
  show Ctr _ _ #[.agg #[vI uo, vI ua, vI up2, .bool ut, .slice ux es.length uc]] B [] _
  refine Ctr.body (args := [_]) Try.func71 rfl Try.ntmps71 Try.results71 (by simp) ?_
  refine CJ.seq ?_
  refine CJ.region ?_
  refine LJ.boxG (vs := [_, _, _, _, _]) rfl rfl (fun b1 => ?_)
  refine LJ.yd rfl (Yd.asB rfl) ?_
  refine LJ.nil ?_
  refine CJ.seq ?_
  refine CJ.seq ?_
  refine CJ.region ?_
  refine LJ.yd rfl (Yd.fieldAddr rfl) ?_
  refine LJ.yd rfl (Yd.loadC 0 rfl rfl rfl) ?_
  refine LJ.splitD rfl (Yd.lss rfl rfl) (fun h7 => ?_) (fun h7 => ?_)
  · refine LJ.yd rfl (Yd.mvB rfl) ?_
    refine LJ.gF rfl rfl ?_
    refine LJ.gF rfl rfl ?_
    refine LJ.gF rfl rfl ?_
    refine LJ.yd rfl (Yd.pickTB rfl rfl) ?_
    refine LJ.yd rfl (Yd.mvB rfl) ?_
    refine LJ.gF rfl rfl ?_
    refine LJ.gF rfl rfl ?_
    refine LJ.gF rfl rfl ?_
    refine LJ.yd rfl (Yd.pickTB rfl rfl) ?_
    refine LJ.yd rfl (Yd.mvB rfl) ?_
    refine LJ.gF rfl rfl ?_
    refine LJ.gF rfl rfl ?_
    refine LJ.gF rfl rfl ?_
    refine LJ.yd rfl (Yd.pickTB rfl rfl) ?_
    refine LJ.nil ?_
    refine CJ.condT rfl ?_
    refine CJ.seq ?_
    refine CJ.region ?_
    refine LJ.yd rfl (Yd.asB rfl) ?_
    refine LJ.nil ?_
    refine CJ.ret ?_
    refine Fin.V (Res.one (ResV.tmp (v := .bool false) rfl)) ?_
    first
      | (refine congrArg Value.bool (Eq.symm ?_)
         rw [cnP, cnPs_mem hqm1 h31, Bool.and_false]; done)
      | (refine congrArg Value.bool (Eq.symm ?_)
         rw [cnP, Bool.and_eq_false_iff]
         left
         simp only [Bool.and_eq_false_iff, decide_eq_false_iff_not]
         omega)
      | (refine congrArg Value.bool (Eq.symm ?_)
         rw [List.take_of_length_le (by omega)] at hc
         rw [cnP, hc, decide_eq_true (by omega), decide_eq_true (by omega), decide_eq_true (by omega), decide_eq_true (by omega)]; rfl)
  · refine LJ.yd rfl (Yd.mvB rfl) ?_
    refine LJ.gT rfl ?_
    refine LJ.yd rfl (Yd.fieldAddr rfl) ?_
    refine LJ.gT rfl ?_
    refine LJ.yd rfl (Yd.loadC 0 rfl rfl rfl) ?_
    refine LJ.gT rfl ?_
    refine LJ.splitD rfl (Yd.gtr rfl rfl) (fun h11 => ?_) (fun h11 => ?_)
    · refine LJ.yd rfl (Yd.pickFB rfl rfl) ?_
      refine LJ.yd rfl (Yd.mvB rfl) ?_
      refine LJ.gF rfl rfl ?_
      refine LJ.gF rfl rfl ?_
      refine LJ.gF rfl rfl ?_
      refine LJ.yd rfl (Yd.pickTB rfl rfl) ?_
      refine LJ.yd rfl (Yd.mvB rfl) ?_
      refine LJ.gF rfl rfl ?_
      refine LJ.gF rfl rfl ?_
      refine LJ.gF rfl rfl ?_
      refine LJ.yd rfl (Yd.pickTB rfl rfl) ?_
      refine LJ.nil ?_
      refine CJ.condT rfl ?_
      refine CJ.seq ?_
      refine CJ.region ?_
      refine LJ.yd rfl (Yd.asB rfl) ?_
      refine LJ.nil ?_
      refine CJ.ret ?_
      refine Fin.V (Res.one (ResV.tmp (v := .bool false) rfl)) ?_
      first
        | (refine congrArg Value.bool (Eq.symm ?_)
           rw [cnP, cnPs_mem hqm1 h31, Bool.and_false]; done)
        | (refine congrArg Value.bool (Eq.symm ?_)
           rw [cnP, Bool.and_eq_false_iff]
           left
           simp only [Bool.and_eq_false_iff, decide_eq_false_iff_not]
           omega)
        | (refine congrArg Value.bool (Eq.symm ?_)
           rw [List.take_of_length_le (by omega)] at hc
           rw [cnP, hc, decide_eq_true (by omega), decide_eq_true (by omega), decide_eq_true (by omega), decide_eq_true (by omega)]; rfl)
    · refine LJ.yd rfl (Yd.pickFB rfl rfl) ?_
      refine LJ.yd rfl (Yd.mvB rfl) ?_
      refine LJ.gT rfl ?_
      refine LJ.yd rfl (Yd.fieldAddr rfl) ?_
      refine LJ.gT rfl ?_
      refine LJ.yd rfl (Yd.loadC 0 rfl rfl rfl) ?_
      refine LJ.gT rfl ?_
      refine LJ.splitD rfl (Yd.lss rfl rfl) (fun h16 => ?_) (fun h16 => ?_)
      · refine LJ.yd rfl (Yd.pickFB rfl rfl) ?_
        refine LJ.yd rfl (Yd.mvB rfl) ?_
        refine LJ.gF rfl rfl ?_
        refine LJ.gF rfl rfl ?_
        refine LJ.gF rfl rfl ?_
        refine LJ.yd rfl (Yd.pickTB rfl rfl) ?_
        refine LJ.nil ?_
        refine CJ.condT rfl ?_
        refine CJ.seq ?_
        refine CJ.region ?_
        refine LJ.yd rfl (Yd.asB rfl) ?_
        refine LJ.nil ?_
        refine CJ.ret ?_
        refine Fin.V (Res.one (ResV.tmp (v := .bool false) rfl)) ?_
        first
          | (refine congrArg Value.bool (Eq.symm ?_)
             rw [cnP, cnPs_mem hqm1 h31, Bool.and_false]; done)
          | (refine congrArg Value.bool (Eq.symm ?_)
             rw [cnP, Bool.and_eq_false_iff]
             left
             simp only [Bool.and_eq_false_iff, decide_eq_false_iff_not]
             omega)
          | (refine congrArg Value.bool (Eq.symm ?_)
             rw [List.take_of_length_le (by omega)] at hc
             rw [cnP, hc, decide_eq_true (by omega), decide_eq_true (by omega), decide_eq_true (by omega), decide_eq_true (by omega)]; rfl)
      · refine LJ.yd rfl (Yd.pickFB rfl rfl) ?_
        refine LJ.yd rfl (Yd.mvB rfl) ?_
        refine LJ.gT rfl ?_
        refine LJ.yd rfl (Yd.fieldAddr rfl) ?_
        refine LJ.gT rfl ?_
        refine LJ.yd rfl (Yd.loadC 0 rfl rfl rfl) ?_
        refine LJ.gT rfl ?_
        refine LJ.splitD rfl (Yd.gtr rfl rfl) (fun h21 => ?_) (fun h21 => ?_)
        · refine LJ.yd rfl (Yd.pickFB rfl rfl) ?_
          refine LJ.nil ?_
          refine CJ.condT rfl ?_
          refine CJ.seq ?_
          refine CJ.region ?_
          refine LJ.yd rfl (Yd.asB rfl) ?_
          refine LJ.nil ?_
          refine CJ.ret ?_
          refine Fin.V (Res.one (ResV.tmp (v := .bool false) rfl)) ?_
          first
            | (refine congrArg Value.bool (Eq.symm ?_)
               rw [cnP, cnPs_mem hqm1 h31, Bool.and_false]; done)
            | (refine congrArg Value.bool (Eq.symm ?_)
               rw [cnP, Bool.and_eq_false_iff]
               left
               simp only [Bool.and_eq_false_iff, decide_eq_false_iff_not]
               omega)
            | (refine congrArg Value.bool (Eq.symm ?_)
               rw [List.take_of_length_le (by omega)] at hc
               rw [cnP, hc, decide_eq_true (by omega), decide_eq_true (by omega), decide_eq_true (by omega), decide_eq_true (by omega)]; rfl)
        · refine LJ.yd rfl (Yd.pickFB rfl rfl) ?_
          refine LJ.nil ?_
          refine CJ.condF rfl ?_
          refine CJ.skip ?_
          refine CJ.seq ?_
          refine CJ.seq ?_
          refine CJ.region ?_
          refine LJ.yd rfl (Yd.fieldAddr rfl) ?_
          refine LJ.yd rfl (Yd.loadC 0 rfl rfl rfl) ?_
          refine LJ.yd rfl (Yd.len rfl) ?_
          refine LJ.yd rfl (Yd.mvI rfl) ?_
          refine LJ.nil ?_
          refine CJ.block ?_
          refine CJ.loopK [24, 25] Nat (fun k => k ≤ es.length ∧ cnPs (kids.take k) = true) (fun k => [(26, vI k)]) (fun k => es.length - k) (0) ?_ ⟨rfl, trivial⟩ ?_
          · exact ⟨by omega, rfl⟩
          · rintro k σ ⟨hk1, hc⟩
            refine CJ.seq ?_
            refine CJ.region ?_
            refine LJ.splitD rfl (Yd.lss rfl rfl) (fun h27 => ?_) (fun h27 => ?_)
            · refine LJ.nil ?_
              refine CJ.seq ?_
              refine CJ.condT rfl ?_
              refine CJ.skip ?_
              refine CJ.seq ?_
              refine CJ.block ?_
              refine CJ.seq ?_
              refine CJ.region ?_
              refine LJ.idxA rfl hl rfl rfl (by omega) (by first | rfl | omega | (simp; done) | (simp; omega) | (simp [upN_len]; omega) | (simp [idxBy_len]; omega) | (simp [marks_len]; omega) | (simp [upN_len]; done) | (simp [idxBy_len]; done) | (simp [marks_len]; done) | (simp at *; omega)) (fun ib28 io28 ia28 ir28 => ?_)
              refine LJ.lgA (enc := encP) (fun u => [vI u.o, vI u.a, vI u.p, .bool u.t, .slice u.x u.n u.c]) (fun _ => rfl) (fun _ => rfl) ir28 rfl rfl rfl (by first | rfl | omega | (simp; done) | (simp; omega) | (simp [upN_len]; omega) | (simp [idxBy_len]; omega) | (simp [marks_len]; omega) | (simp [upN_len]; done) | (simp [idxBy_len]; done) | (simp [marks_len]; done) | (simp at *; omega)) (fun u29 hu29 => ?_)
              try simp only [Int.toNat_natCast] at hu29
              obtain ⟨q1, hq1, hqr1, hqm1⟩ := hkk.pick hu29
              refine LJ.alloc ([_, _, _, _, _] : List Value) rfl rfl (fun b2 => ?_)
              refine LJ.store (v := .agg #[_, _, _, _, _]) (us := [_, _, _, _, _]) 1 rfl rfl rfl rfl rfl rfl rfl rfl ?_
              refine LJ.nil ?_
              refine CJ.seq ?_
              refine CJ.region ?_
              refine LJ.yd rfl (Yd.loadG (us := [_, _, _, _, _]) 1 rfl rfl rfl rfl) ?_
              refine LJ.callB rfl (fun k hk dk => ih q1 (hmem q1 hqm1) _ _ hqr1.up) (fun h31 => ?_) (fun h31 => ?_)
              · refine LJ.yd rfl (Yd.not rfl) ?_
                refine LJ.nil ?_
                refine CJ.condF rfl ?_
                refine CJ.skip ?_
                refine CJ.region ?_
                refine LJ.yd rfl (Yd.add rfl rfl (by unfold I64; omega)) ?_
                refine LJ.yd rfl (Yd.mvI rfl) ?_
                refine LJ.nil ?_
                refine ⟨(k + 1), ?_, ⟨rfl, rfl, trivial⟩, ⟨rfl, trivial⟩, Ent.pick [0] [1] rfl, ?_⟩
                · refine ⟨by omega, ?_⟩
                  rw [takeC hq1, cnPs_snoc, hc, h31]; rfl
                · first | omega | (dsimp only; omega) | (simp only []; omega)
              · refine LJ.yd rfl (Yd.not rfl) ?_
                refine LJ.nil ?_
                refine CJ.condT rfl ?_
                refine CJ.seq ?_
                refine CJ.region ?_
                refine LJ.yd rfl (Yd.asB rfl) ?_
                refine LJ.nil ?_
                refine CJ.ret ?_
                refine Fin.V (Res.one (ResV.tmp (v := .bool false) rfl)) ?_
                first
                  | (refine congrArg Value.bool (Eq.symm ?_)
                     rw [cnP, cnPs_mem hqm1 h31, Bool.and_false]; done)
                  | (refine congrArg Value.bool (Eq.symm ?_)
                     rw [cnP, Bool.and_eq_false_iff]
                     left
                     simp only [Bool.and_eq_false_iff, decide_eq_false_iff_not]
                     omega)
                  | (refine congrArg Value.bool (Eq.symm ?_)
                     rw [List.take_of_length_le (by omega)] at hc
                     rw [cnP, hc, decide_eq_true (by omega), decide_eq_true (by omega), decide_eq_true (by omega), decide_eq_true (by omega)]; rfl)
            · refine LJ.nil ?_
              refine CJ.seq ?_
              refine CJ.condF rfl ?_
              refine CJ.exit ?_
              refine CJ.seq ?_
              refine CJ.region ?_
              refine LJ.yd rfl (Yd.asB rfl) ?_
              refine LJ.nil ?_
              refine CJ.ret ?_
              refine Fin.V (Res.one (ResV.tmp (v := .bool true) rfl)) ?_
              first
                | (refine congrArg Value.bool (Eq.symm ?_)
                   rw [cnP, cnPs_mem hqm1 h31, Bool.and_false]; done)
                | (refine congrArg Value.bool (Eq.symm ?_)
                   rw [cnP, Bool.and_eq_false_iff]
                   left
                   simp only [Bool.and_eq_false_iff, decide_eq_false_iff_not]
                   omega)
                | (refine congrArg Value.bool (Eq.symm ?_)
                   rw [List.take_of_length_le (by omega)] at hc
                   rw [cnP, hc, decide_eq_true (by omega), decide_eq_true (by omega), decide_eq_true (by omega), decide_eq_true (by omega)]; rfl)
theorem numbersFit_ok {A : Amb} {u : PE} {q : Plan} (h : RdPlan A.h (encP u) q) : Ctr Try.prog 71 #[.agg (encP u).toArray] A [] (Val (.bool (cnP q))) := numbersFit_ok' _ q (Nat.lt_succ_self _) u A h
end Go.Proofs.Ytlpjienaennmaaa
