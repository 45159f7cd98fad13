/-
  Works of a few panes, drawn.
-/
import Derived.Test.YtkojheinklgdeaaCF6
import Derived.Test.YtkojheinklgdeaaRD
namespace Go.Proofs.Ytkojheinklgdeaa
open Go
set_option maxRecDepth 20000
set_option maxHeartbeats 1000000

/-- a work that is drawn -/
def WkD (rb : Nat) (a : Option Addr) (n c : Nat) (p k : Int) (v : Value) (gs : List HProp) : Prop :=
  ∃ (W H q : Int) (ps : List Pane) (pa : Option Addr) (m pc : Nat), v = .agg #[vI W, vI H, .slice pa m pc] ∧ gs = [Rd rb a n c q, LR Pane.enc 28 4 pa pc ps] ∧ m = ps.length ∧ p ≤ q ∧ q ≤ p + k ∧ (0 ≤ W ∧ W ≤ 201) ∧ (0 ≤ H ∧ H ≤ 201) ∧ ps.length ≤ 8
theorem sheetWork_ok {A : Amb} {rb n c : Nat} {a : Option Addr} {p : Int} {t : Bool} (hcode : RdCode A.h a n) (hp0 : 0 ≤ p) (hp1 : p ≤ 5000) :
    Ctr Try.prog 98 #[.pointer (some ⟨rb, 0, none⟩), .bool t] A [Rd rb a n c p] (WkD rb a n c p 100) := by
  refine Ctr.body (args := [_, _]) Try.func98 rfl Try.ntmps98 Try.results98 (by simp) ?_
  refine CJ.seq ?_
  refine CJ.region ?_
  refine LJ.alloc ([_, _, _] : List Value) rfl rfl (fun b1 => ?_)
  refine LJ.nil ?_
  refine CJ.seq ?_
  refine CJ.region ?_
  refine LJ.yd rfl (Yd.mvP rfl) ?_
  refine LJ.op rfl (OpR.buildSlice (cs := [_, _, _, _, _]) rfl rfl) ?_
  rintro _ _ ⟨b2, rfl, rfl⟩
  refine LJ.call (pickF _ [1, 2]) (pickF _ [0]) rfl (perm_pickF _ [1, 2] [0] rfl) (fun k hk dk => one_ok (l := [10, 8, 12, 16, 6]) (hcode.up) (LitAt.of (l := [10, 8, 12, 16, 6]) hk dk 1 rfl) (by simp) (by omega) (by omega)) ?_
  rintro _ _ ⟨x9, rfl, hx9, rfl⟩
  simp only [List.mem_cons, List.not_mem_nil, or_false] at hx9
  refine LJ.norm [_, _, _] rfl ?_
  refine LJ.yd rfl (Yd.mvP rfl) ?_
  refine LJ.op rfl (OpR.buildSlice (cs := [_, _, _, _, _]) rfl rfl) ?_
  rintro _ _ ⟨b3, rfl, rfl⟩
  refine LJ.call (pickF _ [0, 1, 3]) (pickF _ [2]) rfl (perm_pickF _ [0, 1, 3] [2] rfl) (fun k hk dk => one_ok (l := [8, 10, 6, 16, 12]) (hcode.up) (LitAt.of (l := [8, 10, 6, 16, 12]) hk dk 2 rfl) (by simp) (by omega) (by omega)) ?_
  rintro _ _ ⟨x12, rfl, hx12, rfl⟩
  simp only [List.mem_cons, List.not_mem_nil, or_false] at hx12
  refine LJ.norm [_, _, _, _] rfl ?_
  refine LJ.yd rfl (Yd.build (cs := [_, _, _]) rfl) ?_
  refine LJ.alloc ([_, _, _] : List Value) rfl rfl (fun b4 => ?_)
  refine LJ.store (v := .agg #[_, _, _]) (us := [_, _, _]) 4 rfl rfl rfl rfl rfl rfl rfl rfl ?_
  refine LJ.nil ?_
  refine CJ.seq ?_
  refine CJ.seq ?_
  refine CJ.ent (Ent.addLR Pane.enc 28 4) ?_
  refine CJ.norm [_, _, _, _, _, _] rfl ?_
  refine CJ.region ?_
  refine LJ.yd rfl (Yd.mvP rfl) ?_
  refine LJ.op rfl (OpR.buildSlice (cs := [_, _, _, _, _, _, _]) rfl rfl) ?_
  rintro _ _ ⟨b5, rfl, rfl⟩
  refine LJ.call (pickF _ [0, 1, 2, 4, 5, 6]) (pickF _ [3]) rfl (perm_pickF _ [0, 1, 2, 4, 5, 6] [3] rfl) (fun k hk dk => one_ok (l := [3, 4, 2, 5, 1, 0, 7]) (hcode.up) (LitAt.of (l := [3, 4, 2, 5, 1, 0, 7]) hk dk 5 rfl) (by simp) (by omega) (by omega)) ?_
  rintro _ _ ⟨x16, rfl, hx16, rfl⟩
  simp only [List.mem_cons, List.not_mem_nil, or_false] at hx16
  refine LJ.norm [_, _, _, _, _, _, _] rfl ?_
  refine LJ.yd rfl (Yd.asI rfl) ?_
  refine LJ.nil ?_
  refine CJ.block ?_
  refine CJ.loopF [0, 1, 4, 5] (Int × Int × List Pane × Option Addr × Nat × Nat) (fun ⟨m, q, F, fa, fn, fc⟩ => 0 ≤ m ∧ p ≤ q ∧ q + 5 * m ≤ p + 80 ∧ F.length + m ≤ 7 ∧ fn = F.length) (fun ⟨m, q, F, fa, fn, fc⟩ => [(6, vI m)]) (fun ⟨m, q, F, fa, fn, fc⟩ => [Rd rb a n c q, Cel b4 46 [vI x9, vI x12, .slice fa fn fc], LR Pane.enc 28 4 fa fc F]) (fun ⟨m, q, F, fa, fn, fc⟩ => m.toNat) (x16, p + 1 + 1 + 1, [], _, _, _) [_, _, _, _] [0, 1, 2, 5] [6, 3, 4] rfl rfl rfl ?_ ⟨rfl, trivial⟩ ?_
  · exact ⟨by omega, by omega, by omega, by simp; omega, rfl⟩
  · rintro ⟨m, q, F, fa, fn, fc⟩ σ ⟨hm0, hq3, hq4, hFl, hfn⟩
    refine CJ.norm [_, _, _, _, _, _, _] rfl ?_
    subst hfn
    refine CJ.seq ?_
    refine CJ.seq ?_
    refine CJ.region ?_
    refine LJ.yd rfl (Yd.mvI rfl) ?_
    refine LJ.splitD rfl (Yd.gtr rfl rfl) (fun h18 => ?_) (fun h18 => ?_)
    · refine LJ.nil ?_
      refine CJ.condT rfl ?_
      refine CJ.skip ?_
      refine CJ.seq ?_
      refine CJ.block ?_
      refine CJ.regionD [0, 1, 2, 3] [4, 5, 6] (by kernel_rfl) rfl ?_
      refine DJ.norm [_, _, _, _] [_, _, _] rfl rfl ?_
      refine DJ.yd 0 rfl (by kernel_rfl) (by kernel_rfl) (by kernel_rfl) rfl rfl (Yd.fieldAddr rfl) ?_
      refine DJ.yd 2 rfl (by kernel_rfl) (by kernel_rfl) (by kernel_rfl) rfl rfl (Yd.mvP rfl) ?_
      refine DJ.yd 3 rfl (by kernel_rfl) (by kernel_rfl) (by kernel_rfl) rfl rfl (Yd.fieldAddr rfl) ?_
      refine DJ.yd 7 rfl (by kernel_rfl) (by kernel_rfl) (by kernel_rfl) rfl rfl (Yd.mvP rfl) ?_
      refine DJ.yd 8 rfl (by kernel_rfl) (by kernel_rfl) (by kernel_rfl) rfl rfl (Yd.fieldAddr rfl) ?_
      refine DJ.split 12 rfl (by kernel_rfl) (by kernel_rfl) (by kernel_rfl) rfl rfl (Yd.mvB rfl) (fun h33 => ?_) (fun h33 => ?_)
      · refine DJ.yd 18 rfl (by kernel_rfl) (by kernel_rfl) (by kernel_rfl) rfl rfl (Yd.mvP rfl) ?_
        refine DJ.three (i := 1) (j := 4) (m := 9) (by kernel_rfl) ?_ ?_ ?_
        · refine DO.yd rfl rfl rfl (fun _ _ _ => Yd.loadC 1 rfl rfl rfl) ?_
          refine DJ.two (i := 4) (j := 9) (by kernel_rfl) ?_ ?_
          · refine DO.yd rfl rfl rfl (fun _ _ _ => Yd.loadC 1 rfl rfl rfl) ?_
            refine DJ.two (i := 5) (j := 9) (by kernel_rfl) ?_ ?_
            · refine DO.call (pickF _ [1, 2]) (pickF _ [0]) rfl rfl rfl (perm_pickF _ [1, 2] [0] rfl) (fun k0 hk0 dk0 k hk dk => pick_ok (hcode.up) (by omega) (by omega)) ?_
              rintro _ _ ⟨x26, rfl, hx26, hy26, rfl⟩
              refine DJ.norm [_, _, _, _] [_, _, _] rfl rfl ?_
              refine DJ.yd 6 rfl (by kernel_rfl) (by kernel_rfl) (by kernel_rfl) rfl rfl (Yd.add rfl rfl (by unfold I64; omega)) ?_
              refine DJ.one (i := 9) (by kernel_rfl) ?_
              refine DO.yd rfl rfl rfl (fun _ _ _ => Yd.loadC 0 rfl rfl rfl) ?_
              refine DJ.one (i := 10) (by kernel_rfl) ?_
              refine DO.call (pickF _ [0, 1]) (pickF _ [2]) rfl rfl rfl (perm_pickF _ [0, 1] [2] rfl) (fun k0 hk0 dk0 k hk dk => pick_ok (hcode.up) (by omega) (by omega)) ?_
              rintro _ _ ⟨x31, rfl, hx31, hy31, rfl⟩
              refine DJ.norm [_, _, _, _] [_, _, _] rfl rfl ?_
              refine DJ.yd 11 rfl (by kernel_rfl) (by kernel_rfl) (by kernel_rfl) rfl rfl (Yd.add rfl rfl (by unfold I64; omega)) ?_
              refine DJ.yd 13 rfl (by kernel_rfl) (by kernel_rfl) (by kernel_rfl) rfl rfl (Yd.mvB rfl) ?_
              refine DJ.yd 14 rfl (by kernel_rfl) (by kernel_rfl) (by kernel_rfl) rfl rfl (Yd.mvP rfl) ?_
              refine DJ.one (i := 15) (by kernel_rfl) ?_
              refine DO.call (pickF _ [0, 1]) (pickF _ [2]) rfl rfl rfl (perm_pickF _ [0, 1] [2] rfl) (fun k0 hk0 dk0 k hk dk => pick_ok (hcode.up) (by omega) (by omega)) ?_
              rintro _ _ ⟨x36, rfl, hx36, hy36, rfl⟩
              refine DJ.norm [_, _, _, _] [_, _, _] rfl rfl ?_
              refine DJ.yd 16 rfl (by kernel_rfl) (by kernel_rfl) (by kernel_rfl) rfl rfl (Yd.eql rfl rfl) ?_
              refine DJ.yd 17 rfl (by kernel_rfl) (by kernel_rfl) (by kernel_rfl) rfl rfl (Yd.pickTB rfl rfl) ?_
              refine DJ.one (i := 19) (by kernel_rfl) ?_
              refine DO.call (pickF _ [0, 1]) (pickF _ [2]) rfl rfl rfl (perm_pickF _ [0, 1] [2] rfl) (fun k0 hk0 dk0 k hk dk => pick_ok (hcode.up) (by omega) (by omega)) ?_
              rintro _ _ ⟨x40, rfl, hx40, hy40, rfl⟩
              refine DJ.norm [_, _, _, _] [_, _, _] rfl rfl ?_
              refine DJ.yd 20 rfl (by kernel_rfl) (by kernel_rfl) (by kernel_rfl) rfl rfl (Yd.build (cs := [_, _, _, _]) rfl) ?_
              refine DJ.one (i := 21) (by kernel_rfl) ?_
              refine DO.op rfl rfl rfl (fun k0 hk0 dk0 => OpR.buildSlice (cs := [_, _, _, _]) rfl rfl) ?_
              rintro _ _ ⟨b6, rfl, rfl⟩
              refine DJ.one (i := 22) (by kernel_rfl) ?_
              refine DO.op rfl rfl rfl (fun k0 hk0 dk0 => OpR.apT (enc := Pane.enc) [⟨_, _, _, _⟩] 1 3 rfl rfl rfl (by first | rfl | omega | (simp; done) | (simp; omega) | (simp [upN_len]; omega) | (simp [idxBy_len]; omega) | (simp [marks_len]; omega) | (simp [upN_len]; done) | (simp [idxBy_len]; done) | (simp [marks_len]; done) | (simp at *; omega)) rfl rfl rfl rfl rfl (by first | rfl | omega | (simp; done) | (simp; omega) | (simp [upN_len]; omega) | (simp [idxBy_len]; omega) | (simp [marks_len]; omega) | (simp [upN_len]; done) | (simp [idxBy_len]; done) | (simp [marks_len]; done) | (simp at *; omega))) ?_
              rintro _ _ ⟨ra43, rc43, rfl, rfl⟩
              refine DJ.norm [_, _, _, _] [_, _, _, _] rfl rfl ?_
              refine DJ.yd 23 rfl (by kernel_rfl) (by kernel_rfl) (by kernel_rfl) rfl rfl (Yd.fieldAddr rfl) ?_
              refine DJ.one (i := 24) (by kernel_rfl) ?_
              refine DO.store (v := .slice _ _ _) (us := [_, _, _]) 0 rfl rfl rfl rfl rfl rfl rfl rfl rfl rfl ?_
              refine DJ.done (by kernel_rfl) ?_
              refine CJ.region ?_
              refine LJ.yd rfl (Yd.mvI rfl) ?_
              refine LJ.yd rfl (Yd.sub rfl rfl (by unfold I64; omega)) ?_
              refine LJ.yd rfl (Yd.asI rfl) ?_
              refine LJ.nil ?_
              refine ⟨(_, _, _, _, _, _), ?_, ⟨rfl, rfl, rfl, rfl, trivial⟩, ⟨rfl, trivial⟩, Ent.pick [0, 1, 2, 3, 6, 4, 5] [7] rfl, ?_⟩
              · exact ⟨by omega, by omega, by omega, by simp; omega, by simp⟩
              · dsimp only; omega
            · refine DO.yd rfl rfl rfl (fun _ _ _ => Yd.loadC 1 rfl rfl rfl) ?_
              refine DJ.one (i := 5) (by kernel_rfl) ?_
              refine DO.call (pickF _ [1, 2]) (pickF _ [0]) rfl rfl rfl (perm_pickF _ [1, 2] [0] rfl) (fun k0 hk0 dk0 k hk dk => pick_ok (hcode.up) (by omega) (by omega)) ?_
              rintro _ _ ⟨x26, rfl, hx26, hy26, rfl⟩
              refine DJ.norm [_, _, _, _] [_, _, _] rfl rfl ?_
              refine DJ.yd 6 rfl (by kernel_rfl) (by kernel_rfl) (by kernel_rfl) rfl rfl (Yd.add rfl rfl (by unfold I64; omega)) ?_
              refine DJ.one (i := 10) (by kernel_rfl) ?_
              refine DO.call (pickF _ [0, 1]) (pickF _ [2]) rfl rfl rfl (perm_pickF _ [0, 1] [2] rfl) (fun k0 hk0 dk0 k hk dk => pick_ok (hcode.up) (by omega) (by omega)) ?_
              rintro _ _ ⟨x31, rfl, hx31, hy31, rfl⟩
              refine DJ.norm [_, _, _, _] [_, _, _] rfl rfl ?_
              refine DJ.yd 11 rfl (by kernel_rfl) (by kernel_rfl) (by kernel_rfl) rfl rfl (Yd.add rfl rfl (by unfold I64; omega)) ?_
              refine DJ.yd 13 rfl (by kernel_rfl) (by kernel_rfl) (by kernel_rfl) rfl rfl (Yd.mvB rfl) ?_
              refine DJ.yd 14 rfl (by kernel_rfl) (by kernel_rfl) (by kernel_rfl) rfl rfl (Yd.mvP rfl) ?_
              refine DJ.one (i := 15) (by kernel_rfl) ?_
              refine DO.call (pickF _ [0, 1]) (pickF _ [2]) rfl rfl rfl (perm_pickF _ [0, 1] [2] rfl) (fun k0 hk0 dk0 k hk dk => pick_ok (hcode.up) (by omega) (by omega)) ?_
              rintro _ _ ⟨x36, rfl, hx36, hy36, rfl⟩
              refine DJ.norm [_, _, _, _] [_, _, _] rfl rfl ?_
              refine DJ.yd 16 rfl (by kernel_rfl) (by kernel_rfl) (by kernel_rfl) rfl rfl (Yd.eql rfl rfl) ?_
              refine DJ.yd 17 rfl (by kernel_rfl) (by kernel_rfl) (by kernel_rfl) rfl rfl (Yd.pickTB rfl rfl) ?_
              refine DJ.one (i := 19) (by kernel_rfl) ?_
              refine DO.call (pickF _ [0, 1]) (pickF _ [2]) rfl rfl rfl (perm_pickF _ [0, 1] [2] rfl) (fun k0 hk0 dk0 k hk dk => pick_ok (hcode.up) (by omega) (by omega)) ?_
              rintro _ _ ⟨x40, rfl, hx40, hy40, rfl⟩
              refine DJ.norm [_, _, _, _] [_, _, _] rfl rfl ?_
              refine DJ.yd 20 rfl (by kernel_rfl) (by kernel_rfl) (by kernel_rfl) rfl rfl (Yd.build (cs := [_, _, _, _]) rfl) ?_
              refine DJ.one (i := 21) (by kernel_rfl) ?_
              refine DO.op rfl rfl rfl (fun k0 hk0 dk0 => OpR.buildSlice (cs := [_, _, _, _]) rfl rfl) ?_
              rintro _ _ ⟨b7, rfl, rfl⟩
              refine DJ.one (i := 22) (by kernel_rfl) ?_
              refine DO.op rfl rfl rfl (fun k0 hk0 dk0 => OpR.apT (enc := Pane.enc) [⟨_, _, _, _⟩] 1 3 rfl rfl rfl (by first | rfl | omega | (simp; done) | (simp; omega) | (simp [upN_len]; omega) | (simp [idxBy_len]; omega) | (simp [marks_len]; omega) | (simp [upN_len]; done) | (simp [idxBy_len]; done) | (simp [marks_len]; done) | (simp at *; omega)) rfl rfl rfl rfl rfl (by first | rfl | omega | (simp; done) | (simp; omega) | (simp [upN_len]; omega) | (simp [idxBy_len]; omega) | (simp [marks_len]; omega) | (simp [upN_len]; done) | (simp [idxBy_len]; done) | (simp [marks_len]; done) | (simp at *; omega))) ?_
              rintro _ _ ⟨ra43, rc43, rfl, rfl⟩
              refine DJ.norm [_, _, _, _] [_, _, _, _] rfl rfl ?_
              refine DJ.yd 23 rfl (by kernel_rfl) (by kernel_rfl) (by kernel_rfl) rfl rfl (Yd.fieldAddr rfl) ?_
              refine DJ.one (i := 24) (by kernel_rfl) ?_
              refine DO.store (v := .slice _ _ _) (us := [_, _, _]) 0 rfl rfl rfl rfl rfl rfl rfl rfl rfl rfl ?_
              refine DJ.done (by kernel_rfl) ?_
              refine CJ.region ?_
              refine LJ.yd rfl (Yd.mvI rfl) ?_
              refine LJ.yd rfl (Yd.sub rfl rfl (by unfold I64; omega)) ?_
              refine LJ.yd rfl (Yd.asI rfl) ?_
              refine LJ.nil ?_
              refine ⟨(_, _, _, _, _, _), ?_, ⟨rfl, rfl, rfl, rfl, trivial⟩, ⟨rfl, trivial⟩, Ent.pick [0, 1, 2, 3, 6, 4, 5] [7] rfl, ?_⟩
              · exact ⟨by omega, by omega, by omega, by simp; omega, by simp⟩
              · dsimp only; omega
          · refine DO.yd rfl rfl rfl (fun _ _ _ => Yd.loadC 1 rfl rfl rfl) ?_
            refine DJ.one (i := 4) (by kernel_rfl) ?_
            refine DO.yd rfl rfl rfl (fun _ _ _ => Yd.loadC 1 rfl rfl rfl) ?_
            refine DJ.one (i := 5) (by kernel_rfl) ?_
            refine DO.call (pickF _ [1, 2]) (pickF _ [0]) rfl rfl rfl (perm_pickF _ [1, 2] [0] rfl) (fun k0 hk0 dk0 k hk dk => pick_ok (hcode.up) (by omega) (by omega)) ?_
            rintro _ _ ⟨x26, rfl, hx26, hy26, rfl⟩
            refine DJ.norm [_, _, _, _] [_, _, _] rfl rfl ?_
            refine DJ.yd 6 rfl (by kernel_rfl) (by kernel_rfl) (by kernel_rfl) rfl rfl (Yd.add rfl rfl (by unfold I64; omega)) ?_
            refine DJ.one (i := 10) (by kernel_rfl) ?_
            refine DO.call (pickF _ [0, 1]) (pickF _ [2]) rfl rfl rfl (perm_pickF _ [0, 1] [2] rfl) (fun k0 hk0 dk0 k hk dk => pick_ok (hcode.up) (by omega) (by omega)) ?_
            rintro _ _ ⟨x31, rfl, hx31, hy31, rfl⟩
            refine DJ.norm [_, _, _, _] [_, _, _] rfl rfl ?_
            refine DJ.yd 11 rfl (by kernel_rfl) (by kernel_rfl) (by kernel_rfl) rfl rfl (Yd.add rfl rfl (by unfold I64; omega)) ?_
            refine DJ.yd 13 rfl (by kernel_rfl) (by kernel_rfl) (by kernel_rfl) rfl rfl (Yd.mvB rfl) ?_
            refine DJ.yd 14 rfl (by kernel_rfl) (by kernel_rfl) (by kernel_rfl) rfl rfl (Yd.mvP rfl) ?_
            refine DJ.one (i := 15) (by kernel_rfl) ?_
            refine DO.call (pickF _ [0, 1]) (pickF _ [2]) rfl rfl rfl (perm_pickF _ [0, 1] [2] rfl) (fun k0 hk0 dk0 k hk dk => pick_ok (hcode.up) (by omega) (by omega)) ?_
            rintro _ _ ⟨x36, rfl, hx36, hy36, rfl⟩
            refine DJ.norm [_, _, _, _] [_, _, _] rfl rfl ?_
            refine DJ.yd 16 rfl (by kernel_rfl) (by kernel_rfl) (by kernel_rfl) rfl rfl (Yd.eql rfl rfl) ?_
            refine DJ.yd 17 rfl (by kernel_rfl) (by kernel_rfl) (by kernel_rfl) rfl rfl (Yd.pickTB rfl rfl) ?_
            refine DJ.one (i := 19) (by kernel_rfl) ?_
            refine DO.call (pickF _ [0, 1]) (pickF _ [2]) rfl rfl rfl (perm_pickF _ [0, 1] [2] rfl) (fun k0 hk0 dk0 k hk dk => pick_ok (hcode.up) (by omega) (by omega)) ?_
            rintro _ _ ⟨x40, rfl, hx40, hy40, rfl⟩
            refine DJ.norm [_, _, _, _] [_, _, _] rfl rfl ?_
            refine DJ.yd 20 rfl (by kernel_rfl) (by kernel_rfl) (by kernel_rfl) rfl rfl (Yd.build (cs := [_, _, _, _]) rfl) ?_
            refine DJ.one (i := 21) (by kernel_rfl) ?_
            refine DO.op rfl rfl rfl (fun k0 hk0 dk0 => OpR.buildSlice (cs := [_, _, _, _]) rfl rfl) ?_
            rintro _ _ ⟨b8, rfl, rfl⟩
            refine DJ.one (i := 22) (by kernel_rfl) ?_
            refine DO.op rfl rfl rfl (fun k0 hk0 dk0 => OpR.apT (enc := Pane.enc) [⟨_, _, _, _⟩] 1 3 rfl rfl rfl (by first | rfl | omega | (simp; done) | (simp; omega) | (simp [upN_len]; omega) | (simp [idxBy_len]; omega) | (simp [marks_len]; omega) | (simp [upN_len]; done) | (simp [idxBy_len]; done) | (simp [marks_len]; done) | (simp at *; omega)) rfl rfl rfl rfl rfl (by first | rfl | omega | (simp; done) | (simp; omega) | (simp [upN_len]; omega) | (simp [idxBy_len]; omega) | (simp [marks_len]; omega) | (simp [upN_len]; done) | (simp [idxBy_len]; done) | (simp [marks_len]; done) | (simp at *; omega))) ?_
            rintro _ _ ⟨ra43, rc43, rfl, rfl⟩
            refine DJ.norm [_, _, _, _] [_, _, _, _] rfl rfl ?_
            refine DJ.yd 23 rfl (by kernel_rfl) (by kernel_rfl) (by kernel_rfl) rfl rfl (Yd.fieldAddr rfl) ?_
            refine DJ.one (i := 24) (by kernel_rfl) ?_
            refine DO.store (v := .slice _ _ _) (us := [_, _, _]) 0 rfl rfl rfl rfl rfl rfl rfl rfl rfl rfl ?_
            refine DJ.done (by kernel_rfl) ?_
            refine CJ.region ?_
            refine LJ.yd rfl (Yd.mvI rfl) ?_
            refine LJ.yd rfl (Yd.sub rfl rfl (by unfold I64; omega)) ?_
            refine LJ.yd rfl (Yd.asI rfl) ?_
            refine LJ.nil ?_
            refine ⟨(_, _, _, _, _, _), ?_, ⟨rfl, rfl, rfl, rfl, trivial⟩, ⟨rfl, trivial⟩, Ent.pick [0, 1, 2, 3, 6, 4, 5] [7] rfl, ?_⟩
            · exact ⟨by omega, by omega, by omega, by simp; omega, by simp⟩
            · dsimp only; omega
        · refine DO.yd rfl rfl rfl (fun _ _ _ => Yd.loadC 1 rfl rfl rfl) ?_
          refine DJ.three (i := 1) (j := 5) (m := 9) (by kernel_rfl) ?_ ?_ ?_
          · refine DO.yd rfl rfl rfl (fun _ _ _ => Yd.loadC 1 rfl rfl rfl) ?_
            refine DJ.two (i := 5) (j := 9) (by kernel_rfl) ?_ ?_
            · refine DO.call (pickF _ [1, 2]) (pickF _ [0]) rfl rfl rfl (perm_pickF _ [1, 2] [0] rfl) (fun k0 hk0 dk0 k hk dk => pick_ok (hcode.up) (by omega) (by omega)) ?_
              rintro _ _ ⟨x26, rfl, hx26, hy26, rfl⟩
              refine DJ.norm [_, _, _, _] [_, _, _] rfl rfl ?_
              refine DJ.yd 6 rfl (by kernel_rfl) (by kernel_rfl) (by kernel_rfl) rfl rfl (Yd.add rfl rfl (by unfold I64; omega)) ?_
              refine DJ.one (i := 9) (by kernel_rfl) ?_
              refine DO.yd rfl rfl rfl (fun _ _ _ => Yd.loadC 0 rfl rfl rfl) ?_
              refine DJ.one (i := 10) (by kernel_rfl) ?_
              refine DO.call (pickF _ [0, 1]) (pickF _ [2]) rfl rfl rfl (perm_pickF _ [0, 1] [2] rfl) (fun k0 hk0 dk0 k hk dk => pick_ok (hcode.up) (by omega) (by omega)) ?_
              rintro _ _ ⟨x31, rfl, hx31, hy31, rfl⟩
              refine DJ.norm [_, _, _, _] [_, _, _] rfl rfl ?_
              refine DJ.yd 11 rfl (by kernel_rfl) (by kernel_rfl) (by kernel_rfl) rfl rfl (Yd.add rfl rfl (by unfold I64; omega)) ?_
              refine DJ.yd 13 rfl (by kernel_rfl) (by kernel_rfl) (by kernel_rfl) rfl rfl (Yd.mvB rfl) ?_
              refine DJ.yd 14 rfl (by kernel_rfl) (by kernel_rfl) (by kernel_rfl) rfl rfl (Yd.mvP rfl) ?_
              refine DJ.one (i := 15) (by kernel_rfl) ?_
              refine DO.call (pickF _ [0, 1]) (pickF _ [2]) rfl rfl rfl (perm_pickF _ [0, 1] [2] rfl) (fun k0 hk0 dk0 k hk dk => pick_ok (hcode.up) (by omega) (by omega)) ?_
              rintro _ _ ⟨x36, rfl, hx36, hy36, rfl⟩
              refine DJ.norm [_, _, _, _] [_, _, _] rfl rfl ?_
              refine DJ.yd 16 rfl (by kernel_rfl) (by kernel_rfl) (by kernel_rfl) rfl rfl (Yd.eql rfl rfl) ?_
              refine DJ.yd 17 rfl (by kernel_rfl) (by kernel_rfl) (by kernel_rfl) rfl rfl (Yd.pickTB rfl rfl) ?_
              refine DJ.one (i := 19) (by kernel_rfl) ?_
              refine DO.call (pickF _ [0, 1]) (pickF _ [2]) rfl rfl rfl (perm_pickF _ [0, 1] [2] rfl) (fun k0 hk0 dk0 k hk dk => pick_ok (hcode.up) (by omega) (by omega)) ?_
              rintro _ _ ⟨x40, rfl, hx40, hy40, rfl⟩
              refine DJ.norm [_, _, _, _] [_, _, _] rfl rfl ?_
              refine DJ.yd 20 rfl (by kernel_rfl) (by kernel_rfl) (by kernel_rfl) rfl rfl (Yd.build (cs := [_, _, _, _]) rfl) ?_
              refine DJ.one (i := 21) (by kernel_rfl) ?_
              refine DO.op rfl rfl rfl (fun k0 hk0 dk0 => OpR.buildSlice (cs := [_, _, _, _]) rfl rfl) ?_
              rintro _ _ ⟨b9, rfl, rfl⟩
              refine DJ.one (i := 22) (by kernel_rfl) ?_
              refine DO.op rfl rfl rfl (fun k0 hk0 dk0 => OpR.apT (enc := Pane.enc) [⟨_, _, _, _⟩] 1 3 rfl rfl rfl (by first | rfl | omega | (simp; done) | (simp; omega) | (simp [upN_len]; omega) | (simp [idxBy_len]; omega) | (simp [marks_len]; omega) | (simp [upN_len]; done) | (simp [idxBy_len]; done) | (simp [marks_len]; done) | (simp at *; omega)) rfl rfl rfl rfl rfl (by first | rfl | omega | (simp; done) | (simp; omega) | (simp [upN_len]; omega) | (simp [idxBy_len]; omega) | (simp [marks_len]; omega) | (simp [upN_len]; done) | (simp [idxBy_len]; done) | (simp [marks_len]; done) | (simp at *; omega))) ?_
              rintro _ _ ⟨ra43, rc43, rfl, rfl⟩
              refine DJ.norm [_, _, _, _] [_, _, _, _] rfl rfl ?_
              refine DJ.yd 23 rfl (by kernel_rfl) (by kernel_rfl) (by kernel_rfl) rfl rfl (Yd.fieldAddr rfl) ?_
              refine DJ.one (i := 24) (by kernel_rfl) ?_
              refine DO.store (v := .slice _ _ _) (us := [_, _, _]) 0 rfl rfl rfl rfl rfl rfl rfl rfl rfl rfl ?_
              refine DJ.done (by kernel_rfl) ?_
              refine CJ.region ?_
              refine LJ.yd rfl (Yd.mvI rfl) ?_
              refine LJ.yd rfl (Yd.sub rfl rfl (by unfold I64; omega)) ?_
              refine LJ.yd rfl (Yd.asI rfl) ?_
              refine LJ.nil ?_
              refine ⟨(_, _, _, _, _, _), ?_, ⟨rfl, rfl, rfl, rfl, trivial⟩, ⟨rfl, trivial⟩, Ent.pick [0, 1, 2, 3, 6, 4, 5] [7] rfl, ?_⟩
              · exact ⟨by omega, by omega, by omega, by simp; omega, by simp⟩
              · dsimp only; omega
            · refine DO.yd rfl rfl rfl (fun _ _ _ => Yd.loadC 1 rfl rfl rfl) ?_
              refine DJ.one (i := 5) (by kernel_rfl) ?_
              refine DO.call (pickF _ [1, 2]) (pickF _ [0]) rfl rfl rfl (perm_pickF _ [1, 2] [0] rfl) (fun k0 hk0 dk0 k hk dk => pick_ok (hcode.up) (by omega) (by omega)) ?_
              rintro _ _ ⟨x26, rfl, hx26, hy26, rfl⟩
              refine DJ.norm [_, _, _, _] [_, _, _] rfl rfl ?_
              refine DJ.yd 6 rfl (by kernel_rfl) (by kernel_rfl) (by kernel_rfl) rfl rfl (Yd.add rfl rfl (by unfold I64; omega)) ?_
              refine DJ.one (i := 10) (by kernel_rfl) ?_
              refine DO.call (pickF _ [0, 1]) (pickF _ [2]) rfl rfl rfl (perm_pickF _ [0, 1] [2] rfl) (fun k0 hk0 dk0 k hk dk => pick_ok (hcode.up) (by omega) (by omega)) ?_
              rintro _ _ ⟨x31, rfl, hx31, hy31, rfl⟩
              refine DJ.norm [_, _, _, _] [_, _, _] rfl rfl ?_
              refine DJ.yd 11 rfl (by kernel_rfl) (by kernel_rfl) (by kernel_rfl) rfl rfl (Yd.add rfl rfl (by unfold I64; omega)) ?_
              refine DJ.yd 13 rfl (by kernel_rfl) (by kernel_rfl) (by kernel_rfl) rfl rfl (Yd.mvB rfl) ?_
              refine DJ.yd 14 rfl (by kernel_rfl) (by kernel_rfl) (by kernel_rfl) rfl rfl (Yd.mvP rfl) ?_
              refine DJ.one (i := 15) (by kernel_rfl) ?_
              refine DO.call (pickF _ [0, 1]) (pickF _ [2]) rfl rfl rfl (perm_pickF _ [0, 1] [2] rfl) (fun k0 hk0 dk0 k hk dk => pick_ok (hcode.up) (by omega) (by omega)) ?_
              rintro _ _ ⟨x36, rfl, hx36, hy36, rfl⟩
              refine DJ.norm [_, _, _, _] [_, _, _] rfl rfl ?_
              refine DJ.yd 16 rfl (by kernel_rfl) (by kernel_rfl) (by kernel_rfl) rfl rfl (Yd.eql rfl rfl) ?_
              refine DJ.yd 17 rfl (by kernel_rfl) (by kernel_rfl) (by kernel_rfl) rfl rfl (Yd.pickTB rfl rfl) ?_
              refine DJ.one (i := 19) (by kernel_rfl) ?_
              refine DO.call (pickF _ [0, 1]) (pickF _ [2]) rfl rfl rfl (perm_pickF _ [0, 1] [2] rfl) (fun k0 hk0 dk0 k hk dk => pick_ok (hcode.up) (by omega) (by omega)) ?_
              rintro _ _ ⟨x40, rfl, hx40, hy40, rfl⟩
              refine DJ.norm [_, _, _, _] [_, _, _] rfl rfl ?_
              refine DJ.yd 20 rfl (by kernel_rfl) (by kernel_rfl) (by kernel_rfl) rfl rfl (Yd.build (cs := [_, _, _, _]) rfl) ?_
              refine DJ.one (i := 21) (by kernel_rfl) ?_
              refine DO.op rfl rfl rfl (fun k0 hk0 dk0 => OpR.buildSlice (cs := [_, _, _, _]) rfl rfl) ?_
              rintro _ _ ⟨b10, rfl, rfl⟩
              refine DJ.one (i := 22) (by kernel_rfl) ?_
              refine DO.op rfl rfl rfl (fun k0 hk0 dk0 => OpR.apT (enc := Pane.enc) [⟨_, _, _, _⟩] 1 3 rfl rfl rfl (by first | rfl | omega | (simp; done) | (simp; omega) | (simp [upN_len]; omega) | (simp [idxBy_len]; omega) | (simp [marks_len]; omega) | (simp [upN_len]; done) | (simp [idxBy_len]; done) | (simp [marks_len]; done) | (simp at *; omega)) rfl rfl rfl rfl rfl (by first | rfl | omega | (simp; done) | (simp; omega) | (simp [upN_len]; omega) | (simp [idxBy_len]; omega) | (simp [marks_len]; omega) | (simp [upN_len]; done) | (simp [idxBy_len]; done) | (simp [marks_len]; done) | (simp at *; omega))) ?_
              rintro _ _ ⟨ra43, rc43, rfl, rfl⟩
              refine DJ.norm [_, _, _, _] [_, _, _, _] rfl rfl ?_
              refine DJ.yd 23 rfl (by kernel_rfl) (by kernel_rfl) (by kernel_rfl) rfl rfl (Yd.fieldAddr rfl) ?_
              refine DJ.one (i := 24) (by kernel_rfl) ?_
              refine DO.store (v := .slice _ _ _) (us := [_, _, _]) 0 rfl rfl rfl rfl rfl rfl rfl rfl rfl rfl ?_
              refine DJ.done (by kernel_rfl) ?_
              refine CJ.region ?_
              refine LJ.yd rfl (Yd.mvI rfl) ?_
              refine LJ.yd rfl (Yd.sub rfl rfl (by unfold I64; omega)) ?_
              refine LJ.yd rfl (Yd.asI rfl) ?_
              refine LJ.nil ?_
              refine ⟨(_, _, _, _, _, _), ?_, ⟨rfl, rfl, rfl, rfl, trivial⟩, ⟨rfl, trivial⟩, Ent.pick [0, 1, 2, 3, 6, 4, 5] [7] rfl, ?_⟩
              · exact ⟨by omega, by omega, by omega, by simp; omega, by simp⟩
              · dsimp only; omega
          · refine DO.call (pickF _ [1, 2]) (pickF _ [0]) rfl rfl rfl (perm_pickF _ [1, 2] [0] rfl) (fun k0 hk0 dk0 k hk dk => pick_ok (hcode.up) (by omega) (by omega)) ?_
            rintro _ _ ⟨x26, rfl, hx26, hy26, rfl⟩
            refine DJ.norm [_, _, _, _] [_, _, _] rfl rfl ?_
            refine DJ.yd 6 rfl (by kernel_rfl) (by kernel_rfl) (by kernel_rfl) rfl rfl (Yd.add rfl rfl (by unfold I64; omega)) ?_
            refine DJ.two (i := 1) (j := 9) (by kernel_rfl) ?_ ?_
            · refine DO.yd rfl rfl rfl (fun _ _ _ => Yd.loadC 0 rfl rfl rfl) ?_
              refine DJ.one (i := 9) (by kernel_rfl) ?_
              refine DO.yd rfl rfl rfl (fun _ _ _ => Yd.loadC 0 rfl rfl rfl) ?_
              refine DJ.one (i := 10) (by kernel_rfl) ?_
              refine DO.call (pickF _ [0, 1]) (pickF _ [2]) rfl rfl rfl (perm_pickF _ [0, 1] [2] rfl) (fun k0 hk0 dk0 k hk dk => pick_ok (hcode.up) (by omega) (by omega)) ?_
              rintro _ _ ⟨x31, rfl, hx31, hy31, rfl⟩
              refine DJ.norm [_, _, _, _] [_, _, _] rfl rfl ?_
              refine DJ.yd 11 rfl (by kernel_rfl) (by kernel_rfl) (by kernel_rfl) rfl rfl (Yd.add rfl rfl (by unfold I64; omega)) ?_
              refine DJ.yd 13 rfl (by kernel_rfl) (by kernel_rfl) (by kernel_rfl) rfl rfl (Yd.mvB rfl) ?_
              refine DJ.yd 14 rfl (by kernel_rfl) (by kernel_rfl) (by kernel_rfl) rfl rfl (Yd.mvP rfl) ?_
              refine DJ.one (i := 15) (by kernel_rfl) ?_
              refine DO.call (pickF _ [0, 1]) (pickF _ [2]) rfl rfl rfl (perm_pickF _ [0, 1] [2] rfl) (fun k0 hk0 dk0 k hk dk => pick_ok (hcode.up) (by omega) (by omega)) ?_
              rintro _ _ ⟨x36, rfl, hx36, hy36, rfl⟩
              refine DJ.norm [_, _, _, _] [_, _, _] rfl rfl ?_
              refine DJ.yd 16 rfl (by kernel_rfl) (by kernel_rfl) (by kernel_rfl) rfl rfl (Yd.eql rfl rfl) ?_
              refine DJ.yd 17 rfl (by kernel_rfl) (by kernel_rfl) (by kernel_rfl) rfl rfl (Yd.pickTB rfl rfl) ?_
              refine DJ.one (i := 19) (by kernel_rfl) ?_
              refine DO.call (pickF _ [0, 1]) (pickF _ [2]) rfl rfl rfl (perm_pickF _ [0, 1] [2] rfl) (fun k0 hk0 dk0 k hk dk => pick_ok (hcode.up) (by omega) (by omega)) ?_
              rintro _ _ ⟨x40, rfl, hx40, hy40, rfl⟩
              refine DJ.norm [_, _, _, _] [_, _, _] rfl rfl ?_
              refine DJ.yd 20 rfl (by kernel_rfl) (by kernel_rfl) (by kernel_rfl) rfl rfl (Yd.build (cs := [_, _, _, _]) rfl) ?_
              refine DJ.one (i := 21) (by kernel_rfl) ?_
              refine DO.op rfl rfl rfl (fun k0 hk0 dk0 => OpR.buildSlice (cs := [_, _, _, _]) rfl rfl) ?_
              rintro _ _ ⟨b11, rfl, rfl⟩
              refine DJ.one (i := 22) (by kernel_rfl) ?_
              refine DO.op rfl rfl rfl (fun k0 hk0 dk0 => OpR.apT (enc := Pane.enc) [⟨_, _, _, _⟩] 1 3 rfl rfl rfl (by first | rfl | omega | (simp; done) | (simp; omega) | (simp [upN_len]; omega) | (simp [idxBy_len]; omega) | (simp [marks_len]; omega) | (simp [upN_len]; done) | (simp [idxBy_len]; done) | (simp [marks_len]; done) | (simp at *; omega)) rfl rfl rfl rfl rfl (by first | rfl | omega | (simp; done) | (simp; omega) | (simp [upN_len]; omega) | (simp [idxBy_len]; omega) | (simp [marks_len]; omega) | (simp [upN_len]; done) | (simp [idxBy_len]; done) | (simp [marks_len]; done) | (simp at *; omega))) ?_
              rintro _ _ ⟨ra43, rc43, rfl, rfl⟩
              refine DJ.norm [_, _, _, _] [_, _, _, _] rfl rfl ?_
              refine DJ.yd 23 rfl (by kernel_rfl) (by kernel_rfl) (by kernel_rfl) rfl rfl (Yd.fieldAddr rfl) ?_
              refine DJ.one (i := 24) (by kernel_rfl) ?_
              refine DO.store (v := .slice _ _ _) (us := [_, _, _]) 0 rfl rfl rfl rfl rfl rfl rfl rfl rfl rfl ?_
              refine DJ.done (by kernel_rfl) ?_
              refine CJ.region ?_
              refine LJ.yd rfl (Yd.mvI rfl) ?_
              refine LJ.yd rfl (Yd.sub rfl rfl (by unfold I64; omega)) ?_
              refine LJ.yd rfl (Yd.asI rfl) ?_
              refine LJ.nil ?_
              refine ⟨(_, _, _, _, _, _), ?_, ⟨rfl, rfl, rfl, rfl, trivial⟩, ⟨rfl, trivial⟩, Ent.pick [0, 1, 2, 3, 6, 4, 5] [7] rfl, ?_⟩
              · exact ⟨by omega, by omega, by omega, by simp; omega, by simp⟩
              · dsimp only; omega
            · refine DO.yd rfl rfl rfl (fun _ _ _ => Yd.loadC 0 rfl rfl rfl) ?_
              refine DJ.two (i := 1) (j := 10) (by kernel_rfl) ?_ ?_
              · refine DO.yd rfl rfl rfl (fun _ _ _ => Yd.loadC 0 rfl rfl rfl) ?_
                refine DJ.one (i := 10) (by kernel_rfl) ?_
                refine DO.call (pickF _ [0, 1]) (pickF _ [2]) rfl rfl rfl (perm_pickF _ [0, 1] [2] rfl) (fun k0 hk0 dk0 k hk dk => pick_ok (hcode.up) (by omega) (by omega)) ?_
                rintro _ _ ⟨x31, rfl, hx31, hy31, rfl⟩
                refine DJ.norm [_, _, _, _] [_, _, _] rfl rfl ?_
                refine DJ.yd 11 rfl (by kernel_rfl) (by kernel_rfl) (by kernel_rfl) rfl rfl (Yd.add rfl rfl (by unfold I64; omega)) ?_
                refine DJ.yd 13 rfl (by kernel_rfl) (by kernel_rfl) (by kernel_rfl) rfl rfl (Yd.mvB rfl) ?_
                refine DJ.yd 14 rfl (by kernel_rfl) (by kernel_rfl) (by kernel_rfl) rfl rfl (Yd.mvP rfl) ?_
                refine DJ.one (i := 15) (by kernel_rfl) ?_
                refine DO.call (pickF _ [0, 1]) (pickF _ [2]) rfl rfl rfl (perm_pickF _ [0, 1] [2] rfl) (fun k0 hk0 dk0 k hk dk => pick_ok (hcode.up) (by omega) (by omega)) ?_
                rintro _ _ ⟨x36, rfl, hx36, hy36, rfl⟩
                refine DJ.norm [_, _, _, _] [_, _, _] rfl rfl ?_
                refine DJ.yd 16 rfl (by kernel_rfl) (by kernel_rfl) (by kernel_rfl) rfl rfl (Yd.eql rfl rfl) ?_
                refine DJ.yd 17 rfl (by kernel_rfl) (by kernel_rfl) (by kernel_rfl) rfl rfl (Yd.pickTB rfl rfl) ?_
                refine DJ.one (i := 19) (by kernel_rfl) ?_
                refine DO.call (pickF _ [0, 1]) (pickF _ [2]) rfl rfl rfl (perm_pickF _ [0, 1] [2] rfl) (fun k0 hk0 dk0 k hk dk => pick_ok (hcode.up) (by omega) (by omega)) ?_
                rintro _ _ ⟨x40, rfl, hx40, hy40, rfl⟩
                refine DJ.norm [_, _, _, _] [_, _, _] rfl rfl ?_
                refine DJ.yd 20 rfl (by kernel_rfl) (by kernel_rfl) (by kernel_rfl) rfl rfl (Yd.build (cs := [_, _, _, _]) rfl) ?_
                refine DJ.one (i := 21) (by kernel_rfl) ?_
                refine DO.op rfl rfl rfl (fun k0 hk0 dk0 => OpR.buildSlice (cs := [_, _, _, _]) rfl rfl) ?_
                rintro _ _ ⟨b12, rfl, rfl⟩
                refine DJ.one (i := 22) (by kernel_rfl) ?_
                refine DO.op rfl rfl rfl (fun k0 hk0 dk0 => OpR.apT (enc := Pane.enc) [⟨_, _, _, _⟩] 1 3 rfl rfl rfl (by first | rfl | omega | (simp; done) | (simp; omega) | (simp [upN_len]; omega) | (simp [idxBy_len]; omega) | (simp [marks_len]; omega) | (simp [upN_len]; done) | (simp [idxBy_len]; done) | (simp [marks_len]; done) | (simp at *; omega)) rfl rfl rfl rfl rfl (by first | rfl | omega | (simp; done) | (simp; omega) | (simp [upN_len]; omega) | (simp [idxBy_len]; omega) | (simp [marks_len]; omega) | (simp [upN_len]; done) | (simp [idxBy_len]; done) | (simp [marks_len]; done) | (simp at *; omega))) ?_
                rintro _ _ ⟨ra43, rc43, rfl, rfl⟩
                refine DJ.norm [_, _, _, _] [_, _, _, _] rfl rfl ?_
                refine DJ.yd 23 rfl (by kernel_rfl) (by kernel_rfl) (by kernel_rfl) rfl rfl (Yd.fieldAddr rfl) ?_
                refine DJ.one (i := 24) (by kernel_rfl) ?_
                refine DO.store (v := .slice _ _ _) (us := [_, _, _]) 0 rfl rfl rfl rfl rfl rfl rfl rfl rfl rfl ?_
                refine DJ.done (by kernel_rfl) ?_
                refine CJ.region ?_
                refine LJ.yd rfl (Yd.mvI rfl) ?_
                refine LJ.yd rfl (Yd.sub rfl rfl (by unfold I64; omega)) ?_
                refine LJ.yd rfl (Yd.asI rfl) ?_
                refine LJ.nil ?_
                refine ⟨(_, _, _, _, _, _), ?_, ⟨rfl, rfl, rfl, rfl, trivial⟩, ⟨rfl, trivial⟩, Ent.pick [0, 1, 2, 3, 6, 4, 5] [7] rfl, ?_⟩
                · exact ⟨by omega, by omega, by omega, by simp; omega, by simp⟩
                · dsimp only; omega
              · refine DO.call (pickF _ [0, 1]) (pickF _ [2]) rfl rfl rfl (perm_pickF _ [0, 1] [2] rfl) (fun k0 hk0 dk0 k hk dk => pick_ok (hcode.up) (by omega) (by omega)) ?_
                rintro _ _ ⟨x31, rfl, hx31, hy31, rfl⟩
                refine DJ.norm [_, _, _, _] [_, _, _] rfl rfl ?_
                refine DJ.yd 11 rfl (by kernel_rfl) (by kernel_rfl) (by kernel_rfl) rfl rfl (Yd.add rfl rfl (by unfold I64; omega)) ?_
                refine DJ.yd 13 rfl (by kernel_rfl) (by kernel_rfl) (by kernel_rfl) rfl rfl (Yd.mvB rfl) ?_
                refine DJ.yd 14 rfl (by kernel_rfl) (by kernel_rfl) (by kernel_rfl) rfl rfl (Yd.mvP rfl) ?_
                refine DJ.two (i := 1) (j := 15) (by kernel_rfl) ?_ ?_
                · refine DO.yd rfl rfl rfl (fun _ _ _ => Yd.loadC 0 rfl rfl rfl) ?_
                  refine DJ.one (i := 15) (by kernel_rfl) ?_
                  refine DO.call (pickF _ [0, 1]) (pickF _ [2]) rfl rfl rfl (perm_pickF _ [0, 1] [2] rfl) (fun k0 hk0 dk0 k hk dk => pick_ok (hcode.up) (by omega) (by omega)) ?_
                  rintro _ _ ⟨x36, rfl, hx36, hy36, rfl⟩
                  refine DJ.norm [_, _, _, _] [_, _, _] rfl rfl ?_
                  refine DJ.yd 16 rfl (by kernel_rfl) (by kernel_rfl) (by kernel_rfl) rfl rfl (Yd.eql rfl rfl) ?_
                  refine DJ.yd 17 rfl (by kernel_rfl) (by kernel_rfl) (by kernel_rfl) rfl rfl (Yd.pickTB rfl rfl) ?_
                  refine DJ.one (i := 19) (by kernel_rfl) ?_
                  refine DO.call (pickF _ [0, 1]) (pickF _ [2]) rfl rfl rfl (perm_pickF _ [0, 1] [2] rfl) (fun k0 hk0 dk0 k hk dk => pick_ok (hcode.up) (by omega) (by omega)) ?_
                  rintro _ _ ⟨x40, rfl, hx40, hy40, rfl⟩
                  refine DJ.norm [_, _, _, _] [_, _, _] rfl rfl ?_
                  refine DJ.yd 20 rfl (by kernel_rfl) (by kernel_rfl) (by kernel_rfl) rfl rfl (Yd.build (cs := [_, _, _, _]) rfl) ?_
                  refine DJ.one (i := 21) (by kernel_rfl) ?_
                  refine DO.op rfl rfl rfl (fun k0 hk0 dk0 => OpR.buildSlice (cs := [_, _, _, _]) rfl rfl) ?_
                  rintro _ _ ⟨b13, rfl, rfl⟩
                  refine DJ.one (i := 22) (by kernel_rfl) ?_
                  refine DO.op rfl rfl rfl (fun k0 hk0 dk0 => OpR.apT (enc := Pane.enc) [⟨_, _, _, _⟩] 1 3 rfl rfl rfl (by first | rfl | omega | (simp; done) | (simp; omega) | (simp [upN_len]; omega) | (simp [idxBy_len]; omega) | (simp [marks_len]; omega) | (simp [upN_len]; done) | (simp [idxBy_len]; done) | (simp [marks_len]; done) | (simp at *; omega)) rfl rfl rfl rfl rfl (by first | rfl | omega | (simp; done) | (simp; omega) | (simp [upN_len]; omega) | (simp [idxBy_len]; omega) | (simp [marks_len]; omega) | (simp [upN_len]; done) | (simp [idxBy_len]; done) | (simp [marks_len]; done) | (simp at *; omega))) ?_
                  rintro _ _ ⟨ra43, rc43, rfl, rfl⟩
                  refine DJ.norm [_, _, _, _] [_, _, _, _] rfl rfl ?_
                  refine DJ.yd 23 rfl (by kernel_rfl) (by kernel_rfl) (by kernel_rfl) rfl rfl (Yd.fieldAddr rfl) ?_
                  refine DJ.one (i := 24) (by kernel_rfl) ?_
                  refine DO.store (v := .slice _ _ _) (us := [_, _, _]) 0 rfl rfl rfl rfl rfl rfl rfl rfl rfl rfl ?_
                  refine DJ.done (by kernel_rfl) ?_
                  refine CJ.region ?_
                  refine LJ.yd rfl (Yd.mvI rfl) ?_
                  refine LJ.yd rfl (Yd.sub rfl rfl (by unfold I64; omega)) ?_
                  refine LJ.yd rfl (Yd.asI rfl) ?_
                  refine LJ.nil ?_
                  refine ⟨(_, _, _, _, _, _), ?_, ⟨rfl, rfl, rfl, rfl, trivial⟩, ⟨rfl, trivial⟩, Ent.pick [0, 1, 2, 3, 6, 4, 5] [7] rfl, ?_⟩
                  · exact ⟨by omega, by omega, by omega, by simp; omega, by simp⟩
                  · dsimp only; omega
                · refine DO.call (pickF _ [0, 1]) (pickF _ [2]) rfl rfl rfl (perm_pickF _ [0, 1] [2] rfl) (fun k0 hk0 dk0 k hk dk => pick_ok (hcode.up) (by omega) (by omega)) ?_
                  rintro _ _ ⟨x36, rfl, hx36, hy36, rfl⟩
                  refine DJ.norm [_, _, _, _] [_, _, _] rfl rfl ?_
                  refine DJ.yd 16 rfl (by kernel_rfl) (by kernel_rfl) (by kernel_rfl) rfl rfl (Yd.eql rfl rfl) ?_
                  refine DJ.yd 17 rfl (by kernel_rfl) (by kernel_rfl) (by kernel_rfl) rfl rfl (Yd.pickTB rfl rfl) ?_
                  refine DJ.two (i := 1) (j := 19) (by kernel_rfl) ?_ ?_
                  · refine DO.yd rfl rfl rfl (fun _ _ _ => Yd.loadC 0 rfl rfl rfl) ?_
                    refine DJ.one (i := 19) (by kernel_rfl) ?_
                    refine DO.call (pickF _ [0, 1]) (pickF _ [2]) rfl rfl rfl (perm_pickF _ [0, 1] [2] rfl) (fun k0 hk0 dk0 k hk dk => pick_ok (hcode.up) (by omega) (by omega)) ?_
                    rintro _ _ ⟨x40, rfl, hx40, hy40, rfl⟩
                    refine DJ.norm [_, _, _, _] [_, _, _] rfl rfl ?_
                    refine DJ.yd 20 rfl (by kernel_rfl) (by kernel_rfl) (by kernel_rfl) rfl rfl (Yd.build (cs := [_, _, _, _]) rfl) ?_
                    refine DJ.one (i := 21) (by kernel_rfl) ?_
                    refine DO.op rfl rfl rfl (fun k0 hk0 dk0 => OpR.buildSlice (cs := [_, _, _, _]) rfl rfl) ?_
                    rintro _ _ ⟨b14, rfl, rfl⟩
                    refine DJ.one (i := 22) (by kernel_rfl) ?_
                    refine DO.op rfl rfl rfl (fun k0 hk0 dk0 => OpR.apT (enc := Pane.enc) [⟨_, _, _, _⟩] 1 3 rfl rfl rfl (by first | rfl | omega | (simp; done) | (simp; omega) | (simp [upN_len]; omega) | (simp [idxBy_len]; omega) | (simp [marks_len]; omega) | (simp [upN_len]; done) | (simp [idxBy_len]; done) | (simp [marks_len]; done) | (simp at *; omega)) rfl rfl rfl rfl rfl (by first | rfl | omega | (simp; done) | (simp; omega) | (simp [upN_len]; omega) | (simp [idxBy_len]; omega) | (simp [marks_len]; omega) | (simp [upN_len]; done) | (simp [idxBy_len]; done) | (simp [marks_len]; done) | (simp at *; omega))) ?_
                    rintro _ _ ⟨ra43, rc43, rfl, rfl⟩
                    refine DJ.norm [_, _, _, _] [_, _, _, _] rfl rfl ?_
                    refine DJ.yd 23 rfl (by kernel_rfl) (by kernel_rfl) (by kernel_rfl) rfl rfl (Yd.fieldAddr rfl) ?_
                    refine DJ.one (i := 24) (by kernel_rfl) ?_
                    refine DO.store (v := .slice _ _ _) (us := [_, _, _]) 0 rfl rfl rfl rfl rfl rfl rfl rfl rfl rfl ?_
                    refine DJ.done (by kernel_rfl) ?_
                    refine CJ.region ?_
                    refine LJ.yd rfl (Yd.mvI rfl) ?_
                    refine LJ.yd rfl (Yd.sub rfl rfl (by unfold I64; omega)) ?_
                    refine LJ.yd rfl (Yd.asI rfl) ?_
                    refine LJ.nil ?_
                    refine ⟨(_, _, _, _, _, _), ?_, ⟨rfl, rfl, rfl, rfl, trivial⟩, ⟨rfl, trivial⟩, Ent.pick [0, 1, 2, 3, 6, 4, 5] [7] rfl, ?_⟩
                    · exact ⟨by omega, by omega, by omega, by simp; omega, by simp⟩
                    · dsimp only; omega
                  · refine DO.call (pickF _ [0, 1]) (pickF _ [2]) rfl rfl rfl (perm_pickF _ [0, 1] [2] rfl) (fun k0 hk0 dk0 k hk dk => pick_ok (hcode.up) (by omega) (by omega)) ?_
                    rintro _ _ ⟨x40, rfl, hx40, hy40, rfl⟩
                    refine DJ.norm [_, _, _, _] [_, _, _] rfl rfl ?_
                    refine DJ.yd 20 rfl (by kernel_rfl) (by kernel_rfl) (by kernel_rfl) rfl rfl (Yd.build (cs := [_, _, _, _]) rfl) ?_
                    refine DJ.two (i := 1) (j := 21) (by kernel_rfl) ?_ ?_
                    · refine DO.yd rfl rfl rfl (fun _ _ _ => Yd.loadC 0 rfl rfl rfl) ?_
                      refine DJ.one (i := 21) (by kernel_rfl) ?_
                      refine DO.op rfl rfl rfl (fun k0 hk0 dk0 => OpR.buildSlice (cs := [_, _, _, _]) rfl rfl) ?_
                      rintro _ _ ⟨b15, rfl, rfl⟩
                      refine DJ.one (i := 22) (by kernel_rfl) ?_
                      refine DO.op rfl rfl rfl (fun k0 hk0 dk0 => OpR.apT (enc := Pane.enc) [⟨_, _, _, _⟩] 1 3 rfl rfl rfl (by first | rfl | omega | (simp; done) | (simp; omega) | (simp [upN_len]; omega) | (simp [idxBy_len]; omega) | (simp [marks_len]; omega) | (simp [upN_len]; done) | (simp [idxBy_len]; done) | (simp [marks_len]; done) | (simp at *; omega)) rfl rfl rfl rfl rfl (by first | rfl | omega | (simp; done) | (simp; omega) | (simp [upN_len]; omega) | (simp [idxBy_len]; omega) | (simp [marks_len]; omega) | (simp [upN_len]; done) | (simp [idxBy_len]; done) | (simp [marks_len]; done) | (simp at *; omega))) ?_
                      rintro _ _ ⟨ra43, rc43, rfl, rfl⟩
                      refine DJ.norm [_, _, _, _] [_, _, _, _] rfl rfl ?_
                      refine DJ.yd 23 rfl (by kernel_rfl) (by kernel_rfl) (by kernel_rfl) rfl rfl (Yd.fieldAddr rfl) ?_
                      refine DJ.one (i := 24) (by kernel_rfl) ?_
                      refine DO.store (v := .slice _ _ _) (us := [_, _, _]) 0 rfl rfl rfl rfl rfl rfl rfl rfl rfl rfl ?_
                      refine DJ.done (by kernel_rfl) ?_
                      refine CJ.region ?_
                      refine LJ.yd rfl (Yd.mvI rfl) ?_
                      refine LJ.yd rfl (Yd.sub rfl rfl (by unfold I64; omega)) ?_
                      refine LJ.yd rfl (Yd.asI rfl) ?_
                      refine LJ.nil ?_
                      refine ⟨(_, _, _, _, _, _), ?_, ⟨rfl, rfl, rfl, rfl, trivial⟩, ⟨rfl, trivial⟩, Ent.pick [0, 1, 2, 3, 6, 4, 5] [7] rfl, ?_⟩
                      · exact ⟨by omega, by omega, by omega, by simp; omega, by simp⟩
                      · dsimp only; omega
                    · refine DO.op rfl rfl rfl (fun k0 hk0 dk0 => OpR.buildSlice (cs := [_, _, _, _]) rfl rfl) ?_
                      rintro _ _ ⟨b16, rfl, rfl⟩
                      refine DJ.one (i := 1) (by kernel_rfl) ?_
                      refine DO.yd rfl rfl rfl (fun _ _ _ => Yd.loadC 0 rfl rfl rfl) ?_
                      refine DJ.one (i := 22) (by kernel_rfl) ?_
                      refine DO.op rfl rfl rfl (fun k0 hk0 dk0 => OpR.apT (enc := Pane.enc) [⟨_, _, _, _⟩] 1 3 rfl rfl rfl (by first | rfl | omega | (simp; done) | (simp; omega) | (simp [upN_len]; omega) | (simp [idxBy_len]; omega) | (simp [marks_len]; omega) | (simp [upN_len]; done) | (simp [idxBy_len]; done) | (simp [marks_len]; done) | (simp at *; omega)) rfl rfl rfl rfl rfl (by first | rfl | omega | (simp; done) | (simp; omega) | (simp [upN_len]; omega) | (simp [idxBy_len]; omega) | (simp [marks_len]; omega) | (simp [upN_len]; done) | (simp [idxBy_len]; done) | (simp [marks_len]; done) | (simp at *; omega))) ?_
                      rintro _ _ ⟨ra43, rc43, rfl, rfl⟩
                      refine DJ.norm [_, _, _, _] [_, _, _, _] rfl rfl ?_
                      refine DJ.yd 23 rfl (by kernel_rfl) (by kernel_rfl) (by kernel_rfl) rfl rfl (Yd.fieldAddr rfl) ?_
                      refine DJ.one (i := 24) (by kernel_rfl) ?_
                      refine DO.store (v := .slice _ _ _) (us := [_, _, _]) 0 rfl rfl rfl rfl rfl rfl rfl rfl rfl rfl ?_
                      refine DJ.done (by kernel_rfl) ?_
                      refine CJ.region ?_
                      refine LJ.yd rfl (Yd.mvI rfl) ?_
                      refine LJ.yd rfl (Yd.sub rfl rfl (by unfold I64; omega)) ?_
                      refine LJ.yd rfl (Yd.asI rfl) ?_
                      refine LJ.nil ?_
                      refine ⟨(_, _, _, _, _, _), ?_, ⟨rfl, rfl, rfl, rfl, trivial⟩, ⟨rfl, trivial⟩, Ent.pick [0, 1, 2, 3, 6, 4, 5] [7] rfl, ?_⟩
                      · exact ⟨by omega, by omega, by omega, by simp; omega, by simp⟩
                      · dsimp only; omega
          · refine DO.yd rfl rfl rfl (fun _ _ _ => Yd.loadC 1 rfl rfl rfl) ?_
            refine DJ.two (i := 1) (j := 5) (by kernel_rfl) ?_ ?_
            · refine DO.yd rfl rfl rfl (fun _ _ _ => Yd.loadC 1 rfl rfl rfl) ?_
              refine DJ.one (i := 5) (by kernel_rfl) ?_
              refine DO.call (pickF _ [1, 2]) (pickF _ [0]) rfl rfl rfl (perm_pickF _ [1, 2] [0] rfl) (fun k0 hk0 dk0 k hk dk => pick_ok (hcode.up) (by omega) (by omega)) ?_
              rintro _ _ ⟨x26, rfl, hx26, hy26, rfl⟩
              refine DJ.norm [_, _, _, _] [_, _, _] rfl rfl ?_
              refine DJ.yd 6 rfl (by kernel_rfl) (by kernel_rfl) (by kernel_rfl) rfl rfl (Yd.add rfl rfl (by unfold I64; omega)) ?_
              refine DJ.one (i := 10) (by kernel_rfl) ?_
              refine DO.call (pickF _ [0, 1]) (pickF _ [2]) rfl rfl rfl (perm_pickF _ [0, 1] [2] rfl) (fun k0 hk0 dk0 k hk dk => pick_ok (hcode.up) (by omega) (by omega)) ?_
              rintro _ _ ⟨x31, rfl, hx31, hy31, rfl⟩
              refine DJ.norm [_, _, _, _] [_, _, _] rfl rfl ?_
              refine DJ.yd 11 rfl (by kernel_rfl) (by kernel_rfl) (by kernel_rfl) rfl rfl (Yd.add rfl rfl (by unfold I64; omega)) ?_
              refine DJ.yd 13 rfl (by kernel_rfl) (by kernel_rfl) (by kernel_rfl) rfl rfl (Yd.mvB rfl) ?_
              refine DJ.yd 14 rfl (by kernel_rfl) (by kernel_rfl) (by kernel_rfl) rfl rfl (Yd.mvP rfl) ?_
              refine DJ.one (i := 15) (by kernel_rfl) ?_
              refine DO.call (pickF _ [0, 1]) (pickF _ [2]) rfl rfl rfl (perm_pickF _ [0, 1] [2] rfl) (fun k0 hk0 dk0 k hk dk => pick_ok (hcode.up) (by omega) (by omega)) ?_
              rintro _ _ ⟨x36, rfl, hx36, hy36, rfl⟩
              refine DJ.norm [_, _, _, _] [_, _, _] rfl rfl ?_
              refine DJ.yd 16 rfl (by kernel_rfl) (by kernel_rfl) (by kernel_rfl) rfl rfl (Yd.eql rfl rfl) ?_
              refine DJ.yd 17 rfl (by kernel_rfl) (by kernel_rfl) (by kernel_rfl) rfl rfl (Yd.pickTB rfl rfl) ?_
              refine DJ.one (i := 19) (by kernel_rfl) ?_
              refine DO.call (pickF _ [0, 1]) (pickF _ [2]) rfl rfl rfl (perm_pickF _ [0, 1] [2] rfl) (fun k0 hk0 dk0 k hk dk => pick_ok (hcode.up) (by omega) (by omega)) ?_
              rintro _ _ ⟨x40, rfl, hx40, hy40, rfl⟩
              refine DJ.norm [_, _, _, _] [_, _, _] rfl rfl ?_
              refine DJ.yd 20 rfl (by kernel_rfl) (by kernel_rfl) (by kernel_rfl) rfl rfl (Yd.build (cs := [_, _, _, _]) rfl) ?_
              refine DJ.one (i := 21) (by kernel_rfl) ?_
              refine DO.op rfl rfl rfl (fun k0 hk0 dk0 => OpR.buildSlice (cs := [_, _, _, _]) rfl rfl) ?_
              rintro _ _ ⟨b17, rfl, rfl⟩
              refine DJ.one (i := 22) (by kernel_rfl) ?_
              refine DO.op rfl rfl rfl (fun k0 hk0 dk0 => OpR.apT (enc := Pane.enc) [⟨_, _, _, _⟩] 1 3 rfl rfl rfl (by first | rfl | omega | (simp; done) | (simp; omega) | (simp [upN_len]; omega) | (simp [idxBy_len]; omega) | (simp [marks_len]; omega) | (simp [upN_len]; done) | (simp [idxBy_len]; done) | (simp [marks_len]; done) | (simp at *; omega)) rfl rfl rfl rfl rfl (by first | rfl | omega | (simp; done) | (simp; omega) | (simp [upN_len]; omega) | (simp [idxBy_len]; omega) | (simp [marks_len]; omega) | (simp [upN_len]; done) | (simp [idxBy_len]; done) | (simp [marks_len]; done) | (simp at *; omega))) ?_
              rintro _ _ ⟨ra43, rc43, rfl, rfl⟩
              refine DJ.norm [_, _, _, _] [_, _, _, _] rfl rfl ?_
              refine DJ.yd 23 rfl (by kernel_rfl) (by kernel_rfl) (by kernel_rfl) rfl rfl (Yd.fieldAddr rfl) ?_
              refine DJ.one (i := 24) (by kernel_rfl) ?_
              refine DO.store (v := .slice _ _ _) (us := [_, _, _]) 0 rfl rfl rfl rfl rfl rfl rfl rfl rfl rfl ?_
              refine DJ.done (by kernel_rfl) ?_
              refine CJ.region ?_
              refine LJ.yd rfl (Yd.mvI rfl) ?_
              refine LJ.yd rfl (Yd.sub rfl rfl (by unfold I64; omega)) ?_
              refine LJ.yd rfl (Yd.asI rfl) ?_
              refine LJ.nil ?_
              refine ⟨(_, _, _, _, _, _), ?_, ⟨rfl, rfl, rfl, rfl, trivial⟩, ⟨rfl, trivial⟩, Ent.pick [0, 1, 2, 3, 6, 4, 5] [7] rfl, ?_⟩
              · exact ⟨by omega, by omega, by omega, by simp; omega, by simp⟩
              · dsimp only; omega
            · refine DO.call (pickF _ [1, 2]) (pickF _ [0]) rfl rfl rfl (perm_pickF _ [1, 2] [0] rfl) (fun k0 hk0 dk0 k hk dk => pick_ok (hcode.up) (by omega) (by omega)) ?_
              rintro _ _ ⟨x26, rfl, hx26, hy26, rfl⟩
              refine DJ.norm [_, _, _, _] [_, _, _] rfl rfl ?_
              refine DJ.yd 6 rfl (by kernel_rfl) (by kernel_rfl) (by kernel_rfl) rfl rfl (Yd.add rfl rfl (by unfold I64; omega)) ?_
              refine DJ.two (i := 1) (j := 10) (by kernel_rfl) ?_ ?_
              · refine DO.yd rfl rfl rfl (fun _ _ _ => Yd.loadC 0 rfl rfl rfl) ?_
                refine DJ.one (i := 10) (by kernel_rfl) ?_
                refine DO.call (pickF _ [0, 1]) (pickF _ [2]) rfl rfl rfl (perm_pickF _ [0, 1] [2] rfl) (fun k0 hk0 dk0 k hk dk => pick_ok (hcode.up) (by omega) (by omega)) ?_
                rintro _ _ ⟨x31, rfl, hx31, hy31, rfl⟩
                refine DJ.norm [_, _, _, _] [_, _, _] rfl rfl ?_
                refine DJ.yd 11 rfl (by kernel_rfl) (by kernel_rfl) (by kernel_rfl) rfl rfl (Yd.add rfl rfl (by unfold I64; omega)) ?_
                refine DJ.yd 13 rfl (by kernel_rfl) (by kernel_rfl) (by kernel_rfl) rfl rfl (Yd.mvB rfl) ?_
                refine DJ.yd 14 rfl (by kernel_rfl) (by kernel_rfl) (by kernel_rfl) rfl rfl (Yd.mvP rfl) ?_
                refine DJ.one (i := 15) (by kernel_rfl) ?_
                refine DO.call (pickF _ [0, 1]) (pickF _ [2]) rfl rfl rfl (perm_pickF _ [0, 1] [2] rfl) (fun k0 hk0 dk0 k hk dk => pick_ok (hcode.up) (by omega) (by omega)) ?_
                rintro _ _ ⟨x36, rfl, hx36, hy36, rfl⟩
                refine DJ.norm [_, _, _, _] [_, _, _] rfl rfl ?_
                refine DJ.yd 16 rfl (by kernel_rfl) (by kernel_rfl) (by kernel_rfl) rfl rfl (Yd.eql rfl rfl) ?_
                refine DJ.yd 17 rfl (by kernel_rfl) (by kernel_rfl) (by kernel_rfl) rfl rfl (Yd.pickTB rfl rfl) ?_
                refine DJ.one (i := 19) (by kernel_rfl) ?_
                refine DO.call (pickF _ [0, 1]) (pickF _ [2]) rfl rfl rfl (perm_pickF _ [0, 1] [2] rfl) (fun k0 hk0 dk0 k hk dk => pick_ok (hcode.up) (by omega) (by omega)) ?_
                rintro _ _ ⟨x40, rfl, hx40, hy40, rfl⟩
                refine DJ.norm [_, _, _, _] [_, _, _] rfl rfl ?_
                refine DJ.yd 20 rfl (by kernel_rfl) (by kernel_rfl) (by kernel_rfl) rfl rfl (Yd.build (cs := [_, _, _, _]) rfl) ?_
                refine DJ.one (i := 21) (by kernel_rfl) ?_
                refine DO.op rfl rfl rfl (fun k0 hk0 dk0 => OpR.buildSlice (cs := [_, _, _, _]) rfl rfl) ?_
                rintro _ _ ⟨b18, rfl, rfl⟩
                refine DJ.one (i := 22) (by kernel_rfl) ?_
                refine DO.op rfl rfl rfl (fun k0 hk0 dk0 => OpR.apT (enc := Pane.enc) [⟨_, _, _, _⟩] 1 3 rfl rfl rfl (by first | rfl | omega | (simp; done) | (simp; omega) | (simp [upN_len]; omega) | (simp [idxBy_len]; omega) | (simp [marks_len]; omega) | (simp [upN_len]; done) | (simp [idxBy_len]; done) | (simp [marks_len]; done) | (simp at *; omega)) rfl rfl rfl rfl rfl (by first | rfl | omega | (simp; done) | (simp; omega) | (simp [upN_len]; omega) | (simp [idxBy_len]; omega) | (simp [marks_len]; omega) | (simp [upN_len]; done) | (simp [idxBy_len]; done) | (simp [marks_len]; done) | (simp at *; omega))) ?_
                rintro _ _ ⟨ra43, rc43, rfl, rfl⟩
                refine DJ.norm [_, _, _, _] [_, _, _, _] rfl rfl ?_
                refine DJ.yd 23 rfl (by kernel_rfl) (by kernel_rfl) (by kernel_rfl) rfl rfl (Yd.fieldAddr rfl) ?_
                refine DJ.one (i := 24) (by kernel_rfl) ?_
                refine DO.store (v := .slice _ _ _) (us := [_, _, _]) 0 rfl rfl rfl rfl rfl rfl rfl rfl rfl rfl ?_
                refine DJ.done (by kernel_rfl) ?_
                refine CJ.region ?_
                refine LJ.yd rfl (Yd.mvI rfl) ?_
                refine LJ.yd rfl (Yd.sub rfl rfl (by unfold I64; omega)) ?_
                refine LJ.yd rfl (Yd.asI rfl) ?_
                refine LJ.nil ?_
                refine ⟨(_, _, _, _, _, _), ?_, ⟨rfl, rfl, rfl, rfl, trivial⟩, ⟨rfl, trivial⟩, Ent.pick [0, 1, 2, 3, 6, 4, 5] [7] rfl, ?_⟩
                · exact ⟨by omega, by omega, by omega, by simp; omega, by simp⟩
                · dsimp only; omega
              · refine DO.call (pickF _ [0, 1]) (pickF _ [2]) rfl rfl rfl (perm_pickF _ [0, 1] [2] rfl) (fun k0 hk0 dk0 k hk dk => pick_ok (hcode.up) (by omega) (by omega)) ?_
                rintro _ _ ⟨x31, rfl, hx31, hy31, rfl⟩
                refine DJ.norm [_, _, _, _] [_, _, _] rfl rfl ?_
                refine DJ.yd 11 rfl (by kernel_rfl) (by kernel_rfl) (by kernel_rfl) rfl rfl (Yd.add rfl rfl (by unfold I64; omega)) ?_
                refine DJ.yd 13 rfl (by kernel_rfl) (by kernel_rfl) (by kernel_rfl) rfl rfl (Yd.mvB rfl) ?_
                refine DJ.yd 14 rfl (by kernel_rfl) (by kernel_rfl) (by kernel_rfl) rfl rfl (Yd.mvP rfl) ?_
                refine DJ.two (i := 1) (j := 15) (by kernel_rfl) ?_ ?_
                · refine DO.yd rfl rfl rfl (fun _ _ _ => Yd.loadC 0 rfl rfl rfl) ?_
                  refine DJ.one (i := 15) (by kernel_rfl) ?_
                  refine DO.call (pickF _ [0, 1]) (pickF _ [2]) rfl rfl rfl (perm_pickF _ [0, 1] [2] rfl) (fun k0 hk0 dk0 k hk dk => pick_ok (hcode.up) (by omega) (by omega)) ?_
                  rintro _ _ ⟨x36, rfl, hx36, hy36, rfl⟩
                  refine DJ.norm [_, _, _, _] [_, _, _] rfl rfl ?_
                  refine DJ.yd 16 rfl (by kernel_rfl) (by kernel_rfl) (by kernel_rfl) rfl rfl (Yd.eql rfl rfl) ?_
                  refine DJ.yd 17 rfl (by kernel_rfl) (by kernel_rfl) (by kernel_rfl) rfl rfl (Yd.pickTB rfl rfl) ?_
                  refine DJ.one (i := 19) (by kernel_rfl) ?_
                  refine DO.call (pickF _ [0, 1]) (pickF _ [2]) rfl rfl rfl (perm_pickF _ [0, 1] [2] rfl) (fun k0 hk0 dk0 k hk dk => pick_ok (hcode.up) (by omega) (by omega)) ?_
                  rintro _ _ ⟨x40, rfl, hx40, hy40, rfl⟩
                  refine DJ.norm [_, _, _, _] [_, _, _] rfl rfl ?_
                  refine DJ.yd 20 rfl (by kernel_rfl) (by kernel_rfl) (by kernel_rfl) rfl rfl (Yd.build (cs := [_, _, _, _]) rfl) ?_
                  refine DJ.one (i := 21) (by kernel_rfl) ?_
                  refine DO.op rfl rfl rfl (fun k0 hk0 dk0 => OpR.buildSlice (cs := [_, _, _, _]) rfl rfl) ?_
                  rintro _ _ ⟨b19, rfl, rfl⟩
                  refine DJ.one (i := 22) (by kernel_rfl) ?_
                  refine DO.op rfl rfl rfl (fun k0 hk0 dk0 => OpR.apT (enc := Pane.enc) [⟨_, _, _, _⟩] 1 3 rfl rfl rfl (by first | rfl | omega | (simp; done) | (simp; omega) | (simp [upN_len]; omega) | (simp [idxBy_len]; omega) | (simp [marks_len]; omega) | (simp [upN_len]; done) | (simp [idxBy_len]; done) | (simp [marks_len]; done) | (simp at *; omega)) rfl rfl rfl rfl rfl (by first | rfl | omega | (simp; done) | (simp; omega) | (simp [upN_len]; omega) | (simp [idxBy_len]; omega) | (simp [marks_len]; omega) | (simp [upN_len]; done) | (simp [idxBy_len]; done) | (simp [marks_len]; done) | (simp at *; omega))) ?_
                  rintro _ _ ⟨ra43, rc43, rfl, rfl⟩
                  refine DJ.norm [_, _, _, _] [_, _, _, _] rfl rfl ?_
                  refine DJ.yd 23 rfl (by kernel_rfl) (by kernel_rfl) (by kernel_rfl) rfl rfl (Yd.fieldAddr rfl) ?_
                  refine DJ.one (i := 24) (by kernel_rfl) ?_
                  refine DO.store (v := .slice _ _ _) (us := [_, _, _]) 0 rfl rfl rfl rfl rfl rfl rfl rfl rfl rfl ?_
                  refine DJ.done (by kernel_rfl) ?_
                  refine CJ.region ?_
                  refine LJ.yd rfl (Yd.mvI rfl) ?_
                  refine LJ.yd rfl (Yd.sub rfl rfl (by unfold I64; omega)) ?_
                  refine LJ.yd rfl (Yd.asI rfl) ?_
                  refine LJ.nil ?_
                  refine ⟨(_, _, _, _, _, _), ?_, ⟨rfl, rfl, rfl, rfl, trivial⟩, ⟨rfl, trivial⟩, Ent.pick [0, 1, 2, 3, 6, 4, 5] [7] rfl, ?_⟩
                  · exact ⟨by omega, by omega, by omega, by simp; omega, by simp⟩
                  · dsimp only; omega
                · refine DO.call (pickF _ [0, 1]) (pickF _ [2]) rfl rfl rfl (perm_pickF _ [0, 1] [2] rfl) (fun k0 hk0 dk0 k hk dk => pick_ok (hcode.up) (by omega) (by omega)) ?_
                  rintro _ _ ⟨x36, rfl, hx36, hy36, rfl⟩
                  refine DJ.norm [_, _, _, _] [_, _, _] rfl rfl ?_
                  refine DJ.yd 16 rfl (by kernel_rfl) (by kernel_rfl) (by kernel_rfl) rfl rfl (Yd.eql rfl rfl) ?_
                  refine DJ.yd 17 rfl (by kernel_rfl) (by kernel_rfl) (by kernel_rfl) rfl rfl (Yd.pickTB rfl rfl) ?_
                  refine DJ.two (i := 1) (j := 19) (by kernel_rfl) ?_ ?_
                  · refine DO.yd rfl rfl rfl (fun _ _ _ => Yd.loadC 0 rfl rfl rfl) ?_
                    refine DJ.one (i := 19) (by kernel_rfl) ?_
                    refine DO.call (pickF _ [0, 1]) (pickF _ [2]) rfl rfl rfl (perm_pickF _ [0, 1] [2] rfl) (fun k0 hk0 dk0 k hk dk => pick_ok (hcode.up) (by omega) (by omega)) ?_
                    rintro _ _ ⟨x40, rfl, hx40, hy40, rfl⟩
                    refine DJ.norm [_, _, _, _] [_, _, _] rfl rfl ?_
                    refine DJ.yd 20 rfl (by kernel_rfl) (by kernel_rfl) (by kernel_rfl) rfl rfl (Yd.build (cs := [_, _, _, _]) rfl) ?_
                    refine DJ.one (i := 21) (by kernel_rfl) ?_
                    refine DO.op rfl rfl rfl (fun k0 hk0 dk0 => OpR.buildSlice (cs := [_, _, _, _]) rfl rfl) ?_
                    rintro _ _ ⟨b20, rfl, rfl⟩
                    refine DJ.one (i := 22) (by kernel_rfl) ?_
                    refine DO.op rfl rfl rfl (fun k0 hk0 dk0 => OpR.apT (enc := Pane.enc) [⟨_, _, _, _⟩] 1 3 rfl rfl rfl (by first | rfl | omega | (simp; done) | (simp; omega) | (simp [upN_len]; omega) | (simp [idxBy_len]; omega) | (simp [marks_len]; omega) | (simp [upN_len]; done) | (simp [idxBy_len]; done) | (simp [marks_len]; done) | (simp at *; omega)) rfl rfl rfl rfl rfl (by first | rfl | omega | (simp; done) | (simp; omega) | (simp [upN_len]; omega) | (simp [idxBy_len]; omega) | (simp [marks_len]; omega) | (simp [upN_len]; done) | (simp [idxBy_len]; done) | (simp [marks_len]; done) | (simp at *; omega))) ?_
                    rintro _ _ ⟨ra43, rc43, rfl, rfl⟩
                    refine DJ.norm [_, _, _, _] [_, _, _, _] rfl rfl ?_
                    refine DJ.yd 23 rfl (by kernel_rfl) (by kernel_rfl) (by kernel_rfl) rfl rfl (Yd.fieldAddr rfl) ?_
                    refine DJ.one (i := 24) (by kernel_rfl) ?_
                    refine DO.store (v := .slice _ _ _) (us := [_, _, _]) 0 rfl rfl rfl rfl rfl rfl rfl rfl rfl rfl ?_
                    refine DJ.done (by kernel_rfl) ?_
                    refine CJ.region ?_
                    refine LJ.yd rfl (Yd.mvI rfl) ?_
                    refine LJ.yd rfl (Yd.sub rfl rfl (by unfold I64; omega)) ?_
                    refine LJ.yd rfl (Yd.asI rfl) ?_
                    refine LJ.nil ?_
                    refine ⟨(_, _, _, _, _, _), ?_, ⟨rfl, rfl, rfl, rfl, trivial⟩, ⟨rfl, trivial⟩, Ent.pick [0, 1, 2, 3, 6, 4, 5] [7] rfl, ?_⟩
                    · exact ⟨by omega, by omega, by omega, by simp; omega, by simp⟩
                    · dsimp only; omega
                  · refine DO.call (pickF _ [0, 1]) (pickF _ [2]) rfl rfl rfl (perm_pickF _ [0, 1] [2] rfl) (fun k0 hk0 dk0 k hk dk => pick_ok (hcode.up) (by omega) (by omega)) ?_
                    rintro _ _ ⟨x40, rfl, hx40, hy40, rfl⟩
                    refine DJ.norm [_, _, _, _] [_, _, _] rfl rfl ?_
                    refine DJ.yd 20 rfl (by kernel_rfl) (by kernel_rfl) (by kernel_rfl) rfl rfl (Yd.build (cs := [_, _, _, _]) rfl) ?_
                    refine DJ.two (i := 1) (j := 21) (by kernel_rfl) ?_ ?_
                    · refine DO.yd rfl rfl rfl (fun _ _ _ => Yd.loadC 0 rfl rfl rfl) ?_
                      refine DJ.one (i := 21) (by kernel_rfl) ?_
                      refine DO.op rfl rfl rfl (fun k0 hk0 dk0 => OpR.buildSlice (cs := [_, _, _, _]) rfl rfl) ?_
                      rintro _ _ ⟨b21, rfl, rfl⟩
                      refine DJ.one (i := 22) (by kernel_rfl) ?_
                      refine DO.op rfl rfl rfl (fun k0 hk0 dk0 => OpR.apT (enc := Pane.enc) [⟨_, _, _, _⟩] 1 3 rfl rfl rfl (by first | rfl | omega | (simp; done) | (simp; omega) | (simp [upN_len]; omega) | (simp [idxBy_len]; omega) | (simp [marks_len]; omega) | (simp [upN_len]; done) | (simp [idxBy_len]; done) | (simp [marks_len]; done) | (simp at *; omega)) rfl rfl rfl rfl rfl (by first | rfl | omega | (simp; done) | (simp; omega) | (simp [upN_len]; omega) | (simp [idxBy_len]; omega) | (simp [marks_len]; omega) | (simp [upN_len]; done) | (simp [idxBy_len]; done) | (simp [marks_len]; done) | (simp at *; omega))) ?_
                      rintro _ _ ⟨ra43, rc43, rfl, rfl⟩
                      refine DJ.norm [_, _, _, _] [_, _, _, _] rfl rfl ?_
                      refine DJ.yd 23 rfl (by kernel_rfl) (by kernel_rfl) (by kernel_rfl) rfl rfl (Yd.fieldAddr rfl) ?_
                      refine DJ.one (i := 24) (by kernel_rfl) ?_
                      refine DO.store (v := .slice _ _ _) (us := [_, _, _]) 0 rfl rfl rfl rfl rfl rfl rfl rfl rfl rfl ?_
                      refine DJ.done (by kernel_rfl) ?_
                      refine CJ.region ?_
                      refine LJ.yd rfl (Yd.mvI rfl) ?_
                      refine LJ.yd rfl (Yd.sub rfl rfl (by unfold I64; omega)) ?_
                      refine LJ.yd rfl (Yd.asI rfl) ?_
                      refine LJ.nil ?_
                      refine ⟨(_, _, _, _, _, _), ?_, ⟨rfl, rfl, rfl, rfl, trivial⟩, ⟨rfl, trivial⟩, Ent.pick [0, 1, 2, 3, 6, 4, 5] [7] rfl, ?_⟩
                      · exact ⟨by omega, by omega, by omega, by simp; omega, by simp⟩
                      · dsimp only; omega
                    · refine DO.op rfl rfl rfl (fun k0 hk0 dk0 => OpR.buildSlice (cs := [_, _, _, _]) rfl rfl) ?_
                      rintro _ _ ⟨b22, rfl, rfl⟩
                      refine DJ.one (i := 1) (by kernel_rfl) ?_
                      refine DO.yd rfl rfl rfl (fun _ _ _ => Yd.loadC 0 rfl rfl rfl) ?_
                      refine DJ.one (i := 22) (by kernel_rfl) ?_
                      refine DO.op rfl rfl rfl (fun k0 hk0 dk0 => OpR.apT (enc := Pane.enc) [⟨_, _, _, _⟩] 1 3 rfl rfl rfl (by first | rfl | omega | (simp; done) | (simp; omega) | (simp [upN_len]; omega) | (simp [idxBy_len]; omega) | (simp [marks_len]; omega) | (simp [upN_len]; done) | (simp [idxBy_len]; done) | (simp [marks_len]; done) | (simp at *; omega)) rfl rfl rfl rfl rfl (by first | rfl | omega | (simp; done) | (simp; omega) | (simp [upN_len]; omega) | (simp [idxBy_len]; omega) | (simp [marks_len]; omega) | (simp [upN_len]; done) | (simp [idxBy_len]; done) | (simp [marks_len]; done) | (simp at *; omega))) ?_
                      rintro _ _ ⟨ra43, rc43, rfl, rfl⟩
                      refine DJ.norm [_, _, _, _] [_, _, _, _] rfl rfl ?_
                      refine DJ.yd 23 rfl (by kernel_rfl) (by kernel_rfl) (by kernel_rfl) rfl rfl (Yd.fieldAddr rfl) ?_
                      refine DJ.one (i := 24) (by kernel_rfl) ?_
                      refine DO.store (v := .slice _ _ _) (us := [_, _, _]) 0 rfl rfl rfl rfl rfl rfl rfl rfl rfl rfl ?_
                      refine DJ.done (by kernel_rfl) ?_
                      refine CJ.region ?_
                      refine LJ.yd rfl (Yd.mvI rfl) ?_
                      refine LJ.yd rfl (Yd.sub rfl rfl (by unfold I64; omega)) ?_
                      refine LJ.yd rfl (Yd.asI rfl) ?_
                      refine LJ.nil ?_
                      refine ⟨(_, _, _, _, _, _), ?_, ⟨rfl, rfl, rfl, rfl, trivial⟩, ⟨rfl, trivial⟩, Ent.pick [0, 1, 2, 3, 6, 4, 5] [7] rfl, ?_⟩
                      · exact ⟨by omega, by omega, by omega, by simp; omega, by simp⟩
                      · dsimp only; omega
        · refine DO.yd rfl rfl rfl (fun _ _ _ => Yd.loadC 1 rfl rfl rfl) ?_
          refine DJ.two (i := 1) (j := 4) (by kernel_rfl) ?_ ?_
          · refine DO.yd rfl rfl rfl (fun _ _ _ => Yd.loadC 1 rfl rfl rfl) ?_
            refine DJ.one (i := 4) (by kernel_rfl) ?_
            refine DO.yd rfl rfl rfl (fun _ _ _ => Yd.loadC 1 rfl rfl rfl) ?_
            refine DJ.one (i := 5) (by kernel_rfl) ?_
            refine DO.call (pickF _ [1, 2]) (pickF _ [0]) rfl rfl rfl (perm_pickF _ [1, 2] [0] rfl) (fun k0 hk0 dk0 k hk dk => pick_ok (hcode.up) (by omega) (by omega)) ?_
            rintro _ _ ⟨x26, rfl, hx26, hy26, rfl⟩
            refine DJ.norm [_, _, _, _] [_, _, _] rfl rfl ?_
            refine DJ.yd 6 rfl (by kernel_rfl) (by kernel_rfl) (by kernel_rfl) rfl rfl (Yd.add rfl rfl (by unfold I64; omega)) ?_
            refine DJ.one (i := 10) (by kernel_rfl) ?_
            refine DO.call (pickF _ [0, 1]) (pickF _ [2]) rfl rfl rfl (perm_pickF _ [0, 1] [2] rfl) (fun k0 hk0 dk0 k hk dk => pick_ok (hcode.up) (by omega) (by omega)) ?_
            rintro _ _ ⟨x31, rfl, hx31, hy31, rfl⟩
            refine DJ.norm [_, _, _, _] [_, _, _] rfl rfl ?_
            refine DJ.yd 11 rfl (by kernel_rfl) (by kernel_rfl) (by kernel_rfl) rfl rfl (Yd.add rfl rfl (by unfold I64; omega)) ?_
            refine DJ.yd 13 rfl (by kernel_rfl) (by kernel_rfl) (by kernel_rfl) rfl rfl (Yd.mvB rfl) ?_
            refine DJ.yd 14 rfl (by kernel_rfl) (by kernel_rfl) (by kernel_rfl) rfl rfl (Yd.mvP rfl) ?_
            refine DJ.one (i := 15) (by kernel_rfl) ?_
            refine DO.call (pickF _ [0, 1]) (pickF _ [2]) rfl rfl rfl (perm_pickF _ [0, 1] [2] rfl) (fun k0 hk0 dk0 k hk dk => pick_ok (hcode.up) (by omega) (by omega)) ?_
            rintro _ _ ⟨x36, rfl, hx36, hy36, rfl⟩
            refine DJ.norm [_, _, _, _] [_, _, _] rfl rfl ?_
            refine DJ.yd 16 rfl (by kernel_rfl) (by kernel_rfl) (by kernel_rfl) rfl rfl (Yd.eql rfl rfl) ?_
            refine DJ.yd 17 rfl (by kernel_rfl) (by kernel_rfl) (by kernel_rfl) rfl rfl (Yd.pickTB rfl rfl) ?_
            refine DJ.one (i := 19) (by kernel_rfl) ?_
            refine DO.call (pickF _ [0, 1]) (pickF _ [2]) rfl rfl rfl (perm_pickF _ [0, 1] [2] rfl) (fun k0 hk0 dk0 k hk dk => pick_ok (hcode.up) (by omega) (by omega)) ?_
            rintro _ _ ⟨x40, rfl, hx40, hy40, rfl⟩
            refine DJ.norm [_, _, _, _] [_, _, _] rfl rfl ?_
            refine DJ.yd 20 rfl (by kernel_rfl) (by kernel_rfl) (by kernel_rfl) rfl rfl (Yd.build (cs := [_, _, _, _]) rfl) ?_
            refine DJ.one (i := 21) (by kernel_rfl) ?_
            refine DO.op rfl rfl rfl (fun k0 hk0 dk0 => OpR.buildSlice (cs := [_, _, _, _]) rfl rfl) ?_
            rintro _ _ ⟨b23, rfl, rfl⟩
            refine DJ.one (i := 22) (by kernel_rfl) ?_
            refine DO.op rfl rfl rfl (fun k0 hk0 dk0 => OpR.apT (enc := Pane.enc) [⟨_, _, _, _⟩] 1 3 rfl rfl rfl (by first | rfl | omega | (simp; done) | (simp; omega) | (simp [upN_len]; omega) | (simp [idxBy_len]; omega) | (simp [marks_len]; omega) | (simp [upN_len]; done) | (simp [idxBy_len]; done) | (simp [marks_len]; done) | (simp at *; omega)) rfl rfl rfl rfl rfl (by first | rfl | omega | (simp; done) | (simp; omega) | (simp [upN_len]; omega) | (simp [idxBy_len]; omega) | (simp [marks_len]; omega) | (simp [upN_len]; done) | (simp [idxBy_len]; done) | (simp [marks_len]; done) | (simp at *; omega))) ?_
            rintro _ _ ⟨ra43, rc43, rfl, rfl⟩
            refine DJ.norm [_, _, _, _] [_, _, _, _] rfl rfl ?_
            refine DJ.yd 23 rfl (by kernel_rfl) (by kernel_rfl) (by kernel_rfl) rfl rfl (Yd.fieldAddr rfl) ?_
            refine DJ.one (i := 24) (by kernel_rfl) ?_
            refine DO.store (v := .slice _ _ _) (us := [_, _, _]) 0 rfl rfl rfl rfl rfl rfl rfl rfl rfl rfl ?_
            refine DJ.done (by kernel_rfl) ?_
            refine CJ.region ?_
            refine LJ.yd rfl (Yd.mvI rfl) ?_
            refine LJ.yd rfl (Yd.sub rfl rfl (by unfold I64; omega)) ?_
            refine LJ.yd rfl (Yd.asI rfl) ?_
            refine LJ.nil ?_
            refine ⟨(_, _, _, _, _, _), ?_, ⟨rfl, rfl, rfl, rfl, trivial⟩, ⟨rfl, trivial⟩, Ent.pick [0, 1, 2, 3, 6, 4, 5] [7] rfl, ?_⟩
            · exact ⟨by omega, by omega, by omega, by simp; omega, by simp⟩
            · dsimp only; omega
          · refine DO.yd rfl rfl rfl (fun _ _ _ => Yd.loadC 1 rfl rfl rfl) ?_
            refine DJ.two (i := 1) (j := 5) (by kernel_rfl) ?_ ?_
            · refine DO.yd rfl rfl rfl (fun _ _ _ => Yd.loadC 1 rfl rfl rfl) ?_
              refine DJ.one (i := 5) (by kernel_rfl) ?_
              refine DO.call (pickF _ [1, 2]) (pickF _ [0]) rfl rfl rfl (perm_pickF _ [1, 2] [0] rfl) (fun k0 hk0 dk0 k hk dk => pick_ok (hcode.up) (by omega) (by omega)) ?_
              rintro _ _ ⟨x26, rfl, hx26, hy26, rfl⟩
              refine DJ.norm [_, _, _, _] [_, _, _] rfl rfl ?_
              refine DJ.yd 6 rfl (by kernel_rfl) (by kernel_rfl) (by kernel_rfl) rfl rfl (Yd.add rfl rfl (by unfold I64; omega)) ?_
              refine DJ.one (i := 10) (by kernel_rfl) ?_
              refine DO.call (pickF _ [0, 1]) (pickF _ [2]) rfl rfl rfl (perm_pickF _ [0, 1] [2] rfl) (fun k0 hk0 dk0 k hk dk => pick_ok (hcode.up) (by omega) (by omega)) ?_
              rintro _ _ ⟨x31, rfl, hx31, hy31, rfl⟩
              refine DJ.norm [_, _, _, _] [_, _, _] rfl rfl ?_
              refine DJ.yd 11 rfl (by kernel_rfl) (by kernel_rfl) (by kernel_rfl) rfl rfl (Yd.add rfl rfl (by unfold I64; omega)) ?_
              refine DJ.yd 13 rfl (by kernel_rfl) (by kernel_rfl) (by kernel_rfl) rfl rfl (Yd.mvB rfl) ?_
              refine DJ.yd 14 rfl (by kernel_rfl) (by kernel_rfl) (by kernel_rfl) rfl rfl (Yd.mvP rfl) ?_
              refine DJ.one (i := 15) (by kernel_rfl) ?_
              refine DO.call (pickF _ [0, 1]) (pickF _ [2]) rfl rfl rfl (perm_pickF _ [0, 1] [2] rfl) (fun k0 hk0 dk0 k hk dk => pick_ok (hcode.up) (by omega) (by omega)) ?_
              rintro _ _ ⟨x36, rfl, hx36, hy36, rfl⟩
              refine DJ.norm [_, _, _, _] [_, _, _] rfl rfl ?_
              refine DJ.yd 16 rfl (by kernel_rfl) (by kernel_rfl) (by kernel_rfl) rfl rfl (Yd.eql rfl rfl) ?_
              refine DJ.yd 17 rfl (by kernel_rfl) (by kernel_rfl) (by kernel_rfl) rfl rfl (Yd.pickTB rfl rfl) ?_
              refine DJ.one (i := 19) (by kernel_rfl) ?_
              refine DO.call (pickF _ [0, 1]) (pickF _ [2]) rfl rfl rfl (perm_pickF _ [0, 1] [2] rfl) (fun k0 hk0 dk0 k hk dk => pick_ok (hcode.up) (by omega) (by omega)) ?_
              rintro _ _ ⟨x40, rfl, hx40, hy40, rfl⟩
              refine DJ.norm [_, _, _, _] [_, _, _] rfl rfl ?_
              refine DJ.yd 20 rfl (by kernel_rfl) (by kernel_rfl) (by kernel_rfl) rfl rfl (Yd.build (cs := [_, _, _, _]) rfl) ?_
              refine DJ.one (i := 21) (by kernel_rfl) ?_
              refine DO.op rfl rfl rfl (fun k0 hk0 dk0 => OpR.buildSlice (cs := [_, _, _, _]) rfl rfl) ?_
              rintro _ _ ⟨b24, rfl, rfl⟩
              refine DJ.one (i := 22) (by kernel_rfl) ?_
              refine DO.op rfl rfl rfl (fun k0 hk0 dk0 => OpR.apT (enc := Pane.enc) [⟨_, _, _, _⟩] 1 3 rfl rfl rfl (by first | rfl | omega | (simp; done) | (simp; omega) | (simp [upN_len]; omega) | (simp [idxBy_len]; omega) | (simp [marks_len]; omega) | (simp [upN_len]; done) | (simp [idxBy_len]; done) | (simp [marks_len]; done) | (simp at *; omega)) rfl rfl rfl rfl rfl (by first | rfl | omega | (simp; done) | (simp; omega) | (simp [upN_len]; omega) | (simp [idxBy_len]; omega) | (simp [marks_len]; omega) | (simp [upN_len]; done) | (simp [idxBy_len]; done) | (simp [marks_len]; done) | (simp at *; omega))) ?_
              rintro _ _ ⟨ra43, rc43, rfl, rfl⟩
              refine DJ.norm [_, _, _, _] [_, _, _, _] rfl rfl ?_
              refine DJ.yd 23 rfl (by kernel_rfl) (by kernel_rfl) (by kernel_rfl) rfl rfl (Yd.fieldAddr rfl) ?_
              refine DJ.one (i := 24) (by kernel_rfl) ?_
              refine DO.store (v := .slice _ _ _) (us := [_, _, _]) 0 rfl rfl rfl rfl rfl rfl rfl rfl rfl rfl ?_
              refine DJ.done (by kernel_rfl) ?_
              refine CJ.region ?_
              refine LJ.yd rfl (Yd.mvI rfl) ?_
              refine LJ.yd rfl (Yd.sub rfl rfl (by unfold I64; omega)) ?_
              refine LJ.yd rfl (Yd.asI rfl) ?_
              refine LJ.nil ?_
              refine ⟨(_, _, _, _, _, _), ?_, ⟨rfl, rfl, rfl, rfl, trivial⟩, ⟨rfl, trivial⟩, Ent.pick [0, 1, 2, 3, 6, 4, 5] [7] rfl, ?_⟩
              · exact ⟨by omega, by omega, by omega, by simp; omega, by simp⟩
              · dsimp only; omega
            · refine DO.call (pickF _ [1, 2]) (pickF _ [0]) rfl rfl rfl (perm_pickF _ [1, 2] [0] rfl) (fun k0 hk0 dk0 k hk dk => pick_ok (hcode.up) (by omega) (by omega)) ?_
              rintro _ _ ⟨x26, rfl, hx26, hy26, rfl⟩
              refine DJ.norm [_, _, _, _] [_, _, _] rfl rfl ?_
              refine DJ.yd 6 rfl (by kernel_rfl) (by kernel_rfl) (by kernel_rfl) rfl rfl (Yd.add rfl rfl (by unfold I64; omega)) ?_
              refine DJ.two (i := 1) (j := 10) (by kernel_rfl) ?_ ?_
              · refine DO.yd rfl rfl rfl (fun _ _ _ => Yd.loadC 0 rfl rfl rfl) ?_
                refine DJ.one (i := 10) (by kernel_rfl) ?_
                refine DO.call (pickF _ [0, 1]) (pickF _ [2]) rfl rfl rfl (perm_pickF _ [0, 1] [2] rfl) (fun k0 hk0 dk0 k hk dk => pick_ok (hcode.up) (by omega) (by omega)) ?_
                rintro _ _ ⟨x31, rfl, hx31, hy31, rfl⟩
                refine DJ.norm [_, _, _, _] [_, _, _] rfl rfl ?_
                refine DJ.yd 11 rfl (by kernel_rfl) (by kernel_rfl) (by kernel_rfl) rfl rfl (Yd.add rfl rfl (by unfold I64; omega)) ?_
                refine DJ.yd 13 rfl (by kernel_rfl) (by kernel_rfl) (by kernel_rfl) rfl rfl (Yd.mvB rfl) ?_
                refine DJ.yd 14 rfl (by kernel_rfl) (by kernel_rfl) (by kernel_rfl) rfl rfl (Yd.mvP rfl) ?_
                refine DJ.one (i := 15) (by kernel_rfl) ?_
                refine DO.call (pickF _ [0, 1]) (pickF _ [2]) rfl rfl rfl (perm_pickF _ [0, 1] [2] rfl) (fun k0 hk0 dk0 k hk dk => pick_ok (hcode.up) (by omega) (by omega)) ?_
                rintro _ _ ⟨x36, rfl, hx36, hy36, rfl⟩
                refine DJ.norm [_, _, _, _] [_, _, _] rfl rfl ?_
                refine DJ.yd 16 rfl (by kernel_rfl) (by kernel_rfl) (by kernel_rfl) rfl rfl (Yd.eql rfl rfl) ?_
                refine DJ.yd 17 rfl (by kernel_rfl) (by kernel_rfl) (by kernel_rfl) rfl rfl (Yd.pickTB rfl rfl) ?_
                refine DJ.one (i := 19) (by kernel_rfl) ?_
                refine DO.call (pickF _ [0, 1]) (pickF _ [2]) rfl rfl rfl (perm_pickF _ [0, 1] [2] rfl) (fun k0 hk0 dk0 k hk dk => pick_ok (hcode.up) (by omega) (by omega)) ?_
                rintro _ _ ⟨x40, rfl, hx40, hy40, rfl⟩
                refine DJ.norm [_, _, _, _] [_, _, _] rfl rfl ?_
                refine DJ.yd 20 rfl (by kernel_rfl) (by kernel_rfl) (by kernel_rfl) rfl rfl (Yd.build (cs := [_, _, _, _]) rfl) ?_
                refine DJ.one (i := 21) (by kernel_rfl) ?_
                refine DO.op rfl rfl rfl (fun k0 hk0 dk0 => OpR.buildSlice (cs := [_, _, _, _]) rfl rfl) ?_
                rintro _ _ ⟨b25, rfl, rfl⟩
                refine DJ.one (i := 22) (by kernel_rfl) ?_
                refine DO.op rfl rfl rfl (fun k0 hk0 dk0 => OpR.apT (enc := Pane.enc) [⟨_, _, _, _⟩] 1 3 rfl rfl rfl (by first | rfl | omega | (simp; done) | (simp; omega) | (simp [upN_len]; omega) | (simp [idxBy_len]; omega) | (simp [marks_len]; omega) | (simp [upN_len]; done) | (simp [idxBy_len]; done) | (simp [marks_len]; done) | (simp at *; omega)) rfl rfl rfl rfl rfl (by first | rfl | omega | (simp; done) | (simp; omega) | (simp [upN_len]; omega) | (simp [idxBy_len]; omega) | (simp [marks_len]; omega) | (simp [upN_len]; done) | (simp [idxBy_len]; done) | (simp [marks_len]; done) | (simp at *; omega))) ?_
                rintro _ _ ⟨ra43, rc43, rfl, rfl⟩
                refine DJ.norm [_, _, _, _] [_, _, _, _] rfl rfl ?_
                refine DJ.yd 23 rfl (by kernel_rfl) (by kernel_rfl) (by kernel_rfl) rfl rfl (Yd.fieldAddr rfl) ?_
                refine DJ.one (i := 24) (by kernel_rfl) ?_
                refine DO.store (v := .slice _ _ _) (us := [_, _, _]) 0 rfl rfl rfl rfl rfl rfl rfl rfl rfl rfl ?_
                refine DJ.done (by kernel_rfl) ?_
                refine CJ.region ?_
                refine LJ.yd rfl (Yd.mvI rfl) ?_
                refine LJ.yd rfl (Yd.sub rfl rfl (by unfold I64; omega)) ?_
                refine LJ.yd rfl (Yd.asI rfl) ?_
                refine LJ.nil ?_
                refine ⟨(_, _, _, _, _, _), ?_, ⟨rfl, rfl, rfl, rfl, trivial⟩, ⟨rfl, trivial⟩, Ent.pick [0, 1, 2, 3, 6, 4, 5] [7] rfl, ?_⟩
                · exact ⟨by omega, by omega, by omega, by simp; omega, by simp⟩
                · dsimp only; omega
              · refine DO.call (pickF _ [0, 1]) (pickF _ [2]) rfl rfl rfl (perm_pickF _ [0, 1] [2] rfl) (fun k0 hk0 dk0 k hk dk => pick_ok (hcode.up) (by omega) (by omega)) ?_
                rintro _ _ ⟨x31, rfl, hx31, hy31, rfl⟩
                refine DJ.norm [_, _, _, _] [_, _, _] rfl rfl ?_
                refine DJ.yd 11 rfl (by kernel_rfl) (by kernel_rfl) (by kernel_rfl) rfl rfl (Yd.add rfl rfl (by unfold I64; omega)) ?_
                refine DJ.yd 13 rfl (by kernel_rfl) (by kernel_rfl) (by kernel_rfl) rfl rfl (Yd.mvB rfl) ?_
                refine DJ.yd 14 rfl (by kernel_rfl) (by kernel_rfl) (by kernel_rfl) rfl rfl (Yd.mvP rfl) ?_
                refine DJ.two (i := 1) (j := 15) (by kernel_rfl) ?_ ?_
                · refine DO.yd rfl rfl rfl (fun _ _ _ => Yd.loadC 0 rfl rfl rfl) ?_
                  refine DJ.one (i := 15) (by kernel_rfl) ?_
                  refine DO.call (pickF _ [0, 1]) (pickF _ [2]) rfl rfl rfl (perm_pickF _ [0, 1] [2] rfl) (fun k0 hk0 dk0 k hk dk => pick_ok (hcode.up) (by omega) (by omega)) ?_
                  rintro _ _ ⟨x36, rfl, hx36, hy36, rfl⟩
                  refine DJ.norm [_, _, _, _] [_, _, _] rfl rfl ?_
                  refine DJ.yd 16 rfl (by kernel_rfl) (by kernel_rfl) (by kernel_rfl) rfl rfl (Yd.eql rfl rfl) ?_
                  refine DJ.yd 17 rfl (by kernel_rfl) (by kernel_rfl) (by kernel_rfl) rfl rfl (Yd.pickTB rfl rfl) ?_
                  refine DJ.one (i := 19) (by kernel_rfl) ?_
                  refine DO.call (pickF _ [0, 1]) (pickF _ [2]) rfl rfl rfl (perm_pickF _ [0, 1] [2] rfl) (fun k0 hk0 dk0 k hk dk => pick_ok (hcode.up) (by omega) (by omega)) ?_
                  rintro _ _ ⟨x40, rfl, hx40, hy40, rfl⟩
                  refine DJ.norm [_, _, _, _] [_, _, _] rfl rfl ?_
                  refine DJ.yd 20 rfl (by kernel_rfl) (by kernel_rfl) (by kernel_rfl) rfl rfl (Yd.build (cs := [_, _, _, _]) rfl) ?_
                  refine DJ.one (i := 21) (by kernel_rfl) ?_
                  refine DO.op rfl rfl rfl (fun k0 hk0 dk0 => OpR.buildSlice (cs := [_, _, _, _]) rfl rfl) ?_
                  rintro _ _ ⟨b26, rfl, rfl⟩
                  refine DJ.one (i := 22) (by kernel_rfl) ?_
                  refine DO.op rfl rfl rfl (fun k0 hk0 dk0 => OpR.apT (enc := Pane.enc) [⟨_, _, _, _⟩] 1 3 rfl rfl rfl (by first | rfl | omega | (simp; done) | (simp; omega) | (simp [upN_len]; omega) | (simp [idxBy_len]; omega) | (simp [marks_len]; omega) | (simp [upN_len]; done) | (simp [idxBy_len]; done) | (simp [marks_len]; done) | (simp at *; omega)) rfl rfl rfl rfl rfl (by first | rfl | omega | (simp; done) | (simp; omega) | (simp [upN_len]; omega) | (simp [idxBy_len]; omega) | (simp [marks_len]; omega) | (simp [upN_len]; done) | (simp [idxBy_len]; done) | (simp [marks_len]; done) | (simp at *; omega))) ?_
                  rintro _ _ ⟨ra43, rc43, rfl, rfl⟩
                  refine DJ.norm [_, _, _, _] [_, _, _, _] rfl rfl ?_
                  refine DJ.yd 23 rfl (by kernel_rfl) (by kernel_rfl) (by kernel_rfl) rfl rfl (Yd.fieldAddr rfl) ?_
                  refine DJ.one (i := 24) (by kernel_rfl) ?_
                  refine DO.store (v := .slice _ _ _) (us := [_, _, _]) 0 rfl rfl rfl rfl rfl rfl rfl rfl rfl rfl ?_
                  refine DJ.done (by kernel_rfl) ?_
                  refine CJ.region ?_
                  refine LJ.yd rfl (Yd.mvI rfl) ?_
                  refine LJ.yd rfl (Yd.sub rfl rfl (by unfold I64; omega)) ?_
                  refine LJ.yd rfl (Yd.asI rfl) ?_
                  refine LJ.nil ?_
                  refine ⟨(_, _, _, _, _, _), ?_, ⟨rfl, rfl, rfl, rfl, trivial⟩, ⟨rfl, trivial⟩, Ent.pick [0, 1, 2, 3, 6, 4, 5] [7] rfl, ?_⟩
                  · exact ⟨by omega, by omega, by omega, by simp; omega, by simp⟩
                  · dsimp only; omega
                · refine DO.call (pickF _ [0, 1]) (pickF _ [2]) rfl rfl rfl (perm_pickF _ [0, 1] [2] rfl) (fun k0 hk0 dk0 k hk dk => pick_ok (hcode.up) (by omega) (by omega)) ?_
                  rintro _ _ ⟨x36, rfl, hx36, hy36, rfl⟩
                  refine DJ.norm [_, _, _, _] [_, _, _] rfl rfl ?_
                  refine DJ.yd 16 rfl (by kernel_rfl) (by kernel_rfl) (by kernel_rfl) rfl rfl (Yd.eql rfl rfl) ?_
                  refine DJ.yd 17 rfl (by kernel_rfl) (by kernel_rfl) (by kernel_rfl) rfl rfl (Yd.pickTB rfl rfl) ?_
                  refine DJ.two (i := 1) (j := 19) (by kernel_rfl) ?_ ?_
                  · refine DO.yd rfl rfl rfl (fun _ _ _ => Yd.loadC 0 rfl rfl rfl) ?_
                    refine DJ.one (i := 19) (by kernel_rfl) ?_
                    refine DO.call (pickF _ [0, 1]) (pickF _ [2]) rfl rfl rfl (perm_pickF _ [0, 1] [2] rfl) (fun k0 hk0 dk0 k hk dk => pick_ok (hcode.up) (by omega) (by omega)) ?_
                    rintro _ _ ⟨x40, rfl, hx40, hy40, rfl⟩
                    refine DJ.norm [_, _, _, _] [_, _, _] rfl rfl ?_
                    refine DJ.yd 20 rfl (by kernel_rfl) (by kernel_rfl) (by kernel_rfl) rfl rfl (Yd.build (cs := [_, _, _, _]) rfl) ?_
                    refine DJ.one (i := 21) (by kernel_rfl) ?_
                    refine DO.op rfl rfl rfl (fun k0 hk0 dk0 => OpR.buildSlice (cs := [_, _, _, _]) rfl rfl) ?_
                    rintro _ _ ⟨b27, rfl, rfl⟩
                    refine DJ.one (i := 22) (by kernel_rfl) ?_
                    refine DO.op rfl rfl rfl (fun k0 hk0 dk0 => OpR.apT (enc := Pane.enc) [⟨_, _, _, _⟩] 1 3 rfl rfl rfl (by first | rfl | omega | (simp; done) | (simp; omega) | (simp [upN_len]; omega) | (simp [idxBy_len]; omega) | (simp [marks_len]; omega) | (simp [upN_len]; done) | (simp [idxBy_len]; done) | (simp [marks_len]; done) | (simp at *; omega)) rfl rfl rfl rfl rfl (by first | rfl | omega | (simp; done) | (simp; omega) | (simp [upN_len]; omega) | (simp [idxBy_len]; omega) | (simp [marks_len]; omega) | (simp [upN_len]; done) | (simp [idxBy_len]; done) | (simp [marks_len]; done) | (simp at *; omega))) ?_
                    rintro _ _ ⟨ra43, rc43, rfl, rfl⟩
                    refine DJ.norm [_, _, _, _] [_, _, _, _] rfl rfl ?_
                    refine DJ.yd 23 rfl (by kernel_rfl) (by kernel_rfl) (by kernel_rfl) rfl rfl (Yd.fieldAddr rfl) ?_
                    refine DJ.one (i := 24) (by kernel_rfl) ?_
                    refine DO.store (v := .slice _ _ _) (us := [_, _, _]) 0 rfl rfl rfl rfl rfl rfl rfl rfl rfl rfl ?_
                    refine DJ.done (by kernel_rfl) ?_
                    refine CJ.region ?_
                    refine LJ.yd rfl (Yd.mvI rfl) ?_
                    refine LJ.yd rfl (Yd.sub rfl rfl (by unfold I64; omega)) ?_
                    refine LJ.yd rfl (Yd.asI rfl) ?_
                    refine LJ.nil ?_
                    refine ⟨(_, _, _, _, _, _), ?_, ⟨rfl, rfl, rfl, rfl, trivial⟩, ⟨rfl, trivial⟩, Ent.pick [0, 1, 2, 3, 6, 4, 5] [7] rfl, ?_⟩
                    · exact ⟨by omega, by omega, by omega, by simp; omega, by simp⟩
                    · dsimp only; omega
                  · refine DO.call (pickF _ [0, 1]) (pickF _ [2]) rfl rfl rfl (perm_pickF _ [0, 1] [2] rfl) (fun k0 hk0 dk0 k hk dk => pick_ok (hcode.up) (by omega) (by omega)) ?_
                    rintro _ _ ⟨x40, rfl, hx40, hy40, rfl⟩
                    refine DJ.norm [_, _, _, _] [_, _, _] rfl rfl ?_
                    refine DJ.yd 20 rfl (by kernel_rfl) (by kernel_rfl) (by kernel_rfl) rfl rfl (Yd.build (cs := [_, _, _, _]) rfl) ?_
                    refine DJ.two (i := 1) (j := 21) (by kernel_rfl) ?_ ?_
                    · refine DO.yd rfl rfl rfl (fun _ _ _ => Yd.loadC 0 rfl rfl rfl) ?_
                      refine DJ.one (i := 21) (by kernel_rfl) ?_
                      refine DO.op rfl rfl rfl (fun k0 hk0 dk0 => OpR.buildSlice (cs := [_, _, _, _]) rfl rfl) ?_
                      rintro _ _ ⟨b28, rfl, rfl⟩
                      refine DJ.one (i := 22) (by kernel_rfl) ?_
                      refine DO.op rfl rfl rfl (fun k0 hk0 dk0 => OpR.apT (enc := Pane.enc) [⟨_, _, _, _⟩] 1 3 rfl rfl rfl (by first | rfl | omega | (simp; done) | (simp; omega) | (simp [upN_len]; omega) | (simp [idxBy_len]; omega) | (simp [marks_len]; omega) | (simp [upN_len]; done) | (simp [idxBy_len]; done) | (simp [marks_len]; done) | (simp at *; omega)) rfl rfl rfl rfl rfl (by first | rfl | omega | (simp; done) | (simp; omega) | (simp [upN_len]; omega) | (simp [idxBy_len]; omega) | (simp [marks_len]; omega) | (simp [upN_len]; done) | (simp [idxBy_len]; done) | (simp [marks_len]; done) | (simp at *; omega))) ?_
                      rintro _ _ ⟨ra43, rc43, rfl, rfl⟩
                      refine DJ.norm [_, _, _, _] [_, _, _, _] rfl rfl ?_
                      refine DJ.yd 23 rfl (by kernel_rfl) (by kernel_rfl) (by kernel_rfl) rfl rfl (Yd.fieldAddr rfl) ?_
                      refine DJ.one (i := 24) (by kernel_rfl) ?_
                      refine DO.store (v := .slice _ _ _) (us := [_, _, _]) 0 rfl rfl rfl rfl rfl rfl rfl rfl rfl rfl ?_
                      refine DJ.done (by kernel_rfl) ?_
                      refine CJ.region ?_
                      refine LJ.yd rfl (Yd.mvI rfl) ?_
                      refine LJ.yd rfl (Yd.sub rfl rfl (by unfold I64; omega)) ?_
                      refine LJ.yd rfl (Yd.asI rfl) ?_
                      refine LJ.nil ?_
                      refine ⟨(_, _, _, _, _, _), ?_, ⟨rfl, rfl, rfl, rfl, trivial⟩, ⟨rfl, trivial⟩, Ent.pick [0, 1, 2, 3, 6, 4, 5] [7] rfl, ?_⟩
                      · exact ⟨by omega, by omega, by omega, by simp; omega, by simp⟩
                      · dsimp only; omega
                    · refine DO.op rfl rfl rfl (fun k0 hk0 dk0 => OpR.buildSlice (cs := [_, _, _, _]) rfl rfl) ?_
                      rintro _ _ ⟨b29, rfl, rfl⟩
                      refine DJ.one (i := 1) (by kernel_rfl) ?_
                      refine DO.yd rfl rfl rfl (fun _ _ _ => Yd.loadC 0 rfl rfl rfl) ?_
                      refine DJ.one (i := 22) (by kernel_rfl) ?_
                      refine DO.op rfl rfl rfl (fun k0 hk0 dk0 => OpR.apT (enc := Pane.enc) [⟨_, _, _, _⟩] 1 3 rfl rfl rfl (by first | rfl | omega | (simp; done) | (simp; omega) | (simp [upN_len]; omega) | (simp [idxBy_len]; omega) | (simp [marks_len]; omega) | (simp [upN_len]; done) | (simp [idxBy_len]; done) | (simp [marks_len]; done) | (simp at *; omega)) rfl rfl rfl rfl rfl (by first | rfl | omega | (simp; done) | (simp; omega) | (simp [upN_len]; omega) | (simp [idxBy_len]; omega) | (simp [marks_len]; omega) | (simp [upN_len]; done) | (simp [idxBy_len]; done) | (simp [marks_len]; done) | (simp at *; omega))) ?_
                      rintro _ _ ⟨ra43, rc43, rfl, rfl⟩
                      refine DJ.norm [_, _, _, _] [_, _, _, _] rfl rfl ?_
                      refine DJ.yd 23 rfl (by kernel_rfl) (by kernel_rfl) (by kernel_rfl) rfl rfl (Yd.fieldAddr rfl) ?_
                      refine DJ.one (i := 24) (by kernel_rfl) ?_
                      refine DO.store (v := .slice _ _ _) (us := [_, _, _]) 0 rfl rfl rfl rfl rfl rfl rfl rfl rfl rfl ?_
                      refine DJ.done (by kernel_rfl) ?_
                      refine CJ.region ?_
                      refine LJ.yd rfl (Yd.mvI rfl) ?_
                      refine LJ.yd rfl (Yd.sub rfl rfl (by unfold I64; omega)) ?_
                      refine LJ.yd rfl (Yd.asI rfl) ?_
                      refine LJ.nil ?_
                      refine ⟨(_, _, _, _, _, _), ?_, ⟨rfl, rfl, rfl, rfl, trivial⟩, ⟨rfl, trivial⟩, Ent.pick [0, 1, 2, 3, 6, 4, 5] [7] rfl, ?_⟩
                      · exact ⟨by omega, by omega, by omega, by simp; omega, by simp⟩
                      · dsimp only; omega
      · refine DJ.yd 18 rfl (by kernel_rfl) (by kernel_rfl) (by kernel_rfl) rfl rfl (Yd.mvP rfl) ?_
        refine DJ.three (i := 1) (j := 4) (m := 9) (by kernel_rfl) ?_ ?_ ?_
        · refine DO.yd rfl rfl rfl (fun _ _ _ => Yd.loadC 1 rfl rfl rfl) ?_
          refine DJ.two (i := 4) (j := 9) (by kernel_rfl) ?_ ?_
          · refine DO.yd rfl rfl rfl (fun _ _ _ => Yd.loadC 1 rfl rfl rfl) ?_
            refine DJ.two (i := 5) (j := 9) (by kernel_rfl) ?_ ?_
            · refine DO.call (pickF _ [1, 2]) (pickF _ [0]) rfl rfl rfl (perm_pickF _ [1, 2] [0] rfl) (fun k0 hk0 dk0 k hk dk => pick_ok (hcode.up) (by omega) (by omega)) ?_
              rintro _ _ ⟨x26, rfl, hx26, hy26, rfl⟩
              refine DJ.norm [_, _, _, _] [_, _, _] rfl rfl ?_
              refine DJ.yd 6 rfl (by kernel_rfl) (by kernel_rfl) (by kernel_rfl) rfl rfl (Yd.add rfl rfl (by unfold I64; omega)) ?_
              refine DJ.one (i := 9) (by kernel_rfl) ?_
              refine DO.yd rfl rfl rfl (fun _ _ _ => Yd.loadC 0 rfl rfl rfl) ?_
              refine DJ.one (i := 10) (by kernel_rfl) ?_
              refine DO.call (pickF _ [0, 1]) (pickF _ [2]) rfl rfl rfl (perm_pickF _ [0, 1] [2] rfl) (fun k0 hk0 dk0 k hk dk => pick_ok (hcode.up) (by omega) (by omega)) ?_
              rintro _ _ ⟨x31, rfl, hx31, hy31, rfl⟩
              refine DJ.norm [_, _, _, _] [_, _, _] rfl rfl ?_
              refine DJ.yd 11 rfl (by kernel_rfl) (by kernel_rfl) (by kernel_rfl) rfl rfl (Yd.add rfl rfl (by unfold I64; omega)) ?_
              refine DJ.yd 13 rfl (by kernel_rfl) (by kernel_rfl) (by kernel_rfl) rfl rfl (Yd.mvB rfl) ?_
              refine DJ.skip 14 rfl (by kernel_rfl) (by kernel_rfl) (by kernel_rfl) rfl rfl ?_
              refine DJ.skip 15 rfl (by kernel_rfl) (by kernel_rfl) (by kernel_rfl) rfl rfl ?_
              refine DJ.skip 16 rfl (by kernel_rfl) (by kernel_rfl) (by kernel_rfl) rfl rfl ?_
              refine DJ.yd 17 rfl (by kernel_rfl) (by kernel_rfl) (by kernel_rfl) rfl rfl (Yd.pickFB rfl rfl) ?_
              refine DJ.one (i := 19) (by kernel_rfl) ?_
              refine DO.call (pickF _ [0, 1]) (pickF _ [2]) rfl rfl rfl (perm_pickF _ [0, 1] [2] rfl) (fun k0 hk0 dk0 k hk dk => pick_ok (hcode.up) (by omega) (by omega)) ?_
              rintro _ _ ⟨x40, rfl, hx40, hy40, rfl⟩
              refine DJ.norm [_, _, _, _] [_, _, _] rfl rfl ?_
              refine DJ.yd 20 rfl (by kernel_rfl) (by kernel_rfl) (by kernel_rfl) rfl rfl (Yd.build (cs := [_, _, _, _]) rfl) ?_
              refine DJ.one (i := 21) (by kernel_rfl) ?_
              refine DO.op rfl rfl rfl (fun k0 hk0 dk0 => OpR.buildSlice (cs := [_, _, _, _]) rfl rfl) ?_
              rintro _ _ ⟨b30, rfl, rfl⟩
              refine DJ.one (i := 22) (by kernel_rfl) ?_
              refine DO.op rfl rfl rfl (fun k0 hk0 dk0 => OpR.apT (enc := Pane.enc) [⟨_, _, _, _⟩] 1 3 rfl rfl rfl (by first | rfl | omega | (simp; done) | (simp; omega) | (simp [upN_len]; omega) | (simp [idxBy_len]; omega) | (simp [marks_len]; omega) | (simp [upN_len]; done) | (simp [idxBy_len]; done) | (simp [marks_len]; done) | (simp at *; omega)) rfl rfl rfl rfl rfl (by first | rfl | omega | (simp; done) | (simp; omega) | (simp [upN_len]; omega) | (simp [idxBy_len]; omega) | (simp [marks_len]; omega) | (simp [upN_len]; done) | (simp [idxBy_len]; done) | (simp [marks_len]; done) | (simp at *; omega))) ?_
              rintro _ _ ⟨ra43, rc43, rfl, rfl⟩
              refine DJ.norm [_, _, _, _] [_, _, _, _] rfl rfl ?_
              refine DJ.yd 23 rfl (by kernel_rfl) (by kernel_rfl) (by kernel_rfl) rfl rfl (Yd.fieldAddr rfl) ?_
              refine DJ.one (i := 24) (by kernel_rfl) ?_
              refine DO.store (v := .slice _ _ _) (us := [_, _, _]) 0 rfl rfl rfl rfl rfl rfl rfl rfl rfl rfl ?_
              refine DJ.done (by kernel_rfl) ?_
              refine CJ.region ?_
              refine LJ.yd rfl (Yd.mvI rfl) ?_
              refine LJ.yd rfl (Yd.sub rfl rfl (by unfold I64; omega)) ?_
              refine LJ.yd rfl (Yd.asI rfl) ?_
              refine LJ.nil ?_
              refine ⟨(_, _, _, _, _, _), ?_, ⟨rfl, rfl, rfl, rfl, trivial⟩, ⟨rfl, trivial⟩, Ent.pick [0, 1, 2, 3, 6, 4, 5] [7] rfl, ?_⟩
              · exact ⟨by omega, by omega, by omega, by simp; omega, by simp⟩
              · dsimp only; omega
            · refine DO.yd rfl rfl rfl (fun _ _ _ => Yd.loadC 1 rfl rfl rfl) ?_
              refine DJ.one (i := 5) (by kernel_rfl) ?_
              refine DO.call (pickF _ [1, 2]) (pickF _ [0]) rfl rfl rfl (perm_pickF _ [1, 2] [0] rfl) (fun k0 hk0 dk0 k hk dk => pick_ok (hcode.up) (by omega) (by omega)) ?_
              rintro _ _ ⟨x26, rfl, hx26, hy26, rfl⟩
              refine DJ.norm [_, _, _, _] [_, _, _] rfl rfl ?_
              refine DJ.yd 6 rfl (by kernel_rfl) (by kernel_rfl) (by kernel_rfl) rfl rfl (Yd.add rfl rfl (by unfold I64; omega)) ?_
              refine DJ.one (i := 10) (by kernel_rfl) ?_
              refine DO.call (pickF _ [0, 1]) (pickF _ [2]) rfl rfl rfl (perm_pickF _ [0, 1] [2] rfl) (fun k0 hk0 dk0 k hk dk => pick_ok (hcode.up) (by omega) (by omega)) ?_
              rintro _ _ ⟨x31, rfl, hx31, hy31, rfl⟩
              refine DJ.norm [_, _, _, _] [_, _, _] rfl rfl ?_
              refine DJ.yd 11 rfl (by kernel_rfl) (by kernel_rfl) (by kernel_rfl) rfl rfl (Yd.add rfl rfl (by unfold I64; omega)) ?_
              refine DJ.yd 13 rfl (by kernel_rfl) (by kernel_rfl) (by kernel_rfl) rfl rfl (Yd.mvB rfl) ?_
              refine DJ.skip 14 rfl (by kernel_rfl) (by kernel_rfl) (by kernel_rfl) rfl rfl ?_
              refine DJ.skip 15 rfl (by kernel_rfl) (by kernel_rfl) (by kernel_rfl) rfl rfl ?_
              refine DJ.skip 16 rfl (by kernel_rfl) (by kernel_rfl) (by kernel_rfl) rfl rfl ?_
              refine DJ.yd 17 rfl (by kernel_rfl) (by kernel_rfl) (by kernel_rfl) rfl rfl (Yd.pickFB rfl rfl) ?_
              refine DJ.one (i := 19) (by kernel_rfl) ?_
              refine DO.call (pickF _ [0, 1]) (pickF _ [2]) rfl rfl rfl (perm_pickF _ [0, 1] [2] rfl) (fun k0 hk0 dk0 k hk dk => pick_ok (hcode.up) (by omega) (by omega)) ?_
              rintro _ _ ⟨x40, rfl, hx40, hy40, rfl⟩
              refine DJ.norm [_, _, _, _] [_, _, _] rfl rfl ?_
              refine DJ.yd 20 rfl (by kernel_rfl) (by kernel_rfl) (by kernel_rfl) rfl rfl (Yd.build (cs := [_, _, _, _]) rfl) ?_
              refine DJ.one (i := 21) (by kernel_rfl) ?_
              refine DO.op rfl rfl rfl (fun k0 hk0 dk0 => OpR.buildSlice (cs := [_, _, _, _]) rfl rfl) ?_
              rintro _ _ ⟨b31, rfl, rfl⟩
              refine DJ.one (i := 22) (by kernel_rfl) ?_
              refine DO.op rfl rfl rfl (fun k0 hk0 dk0 => OpR.apT (enc := Pane.enc) [⟨_, _, _, _⟩] 1 3 rfl rfl rfl (by first | rfl | omega | (simp; done) | (simp; omega) | (simp [upN_len]; omega) | (simp [idxBy_len]; omega) | (simp [marks_len]; omega) | (simp [upN_len]; done) | (simp [idxBy_len]; done) | (simp [marks_len]; done) | (simp at *; omega)) rfl rfl rfl rfl rfl (by first | rfl | omega | (simp; done) | (simp; omega) | (simp [upN_len]; omega) | (simp [idxBy_len]; omega) | (simp [marks_len]; omega) | (simp [upN_len]; done) | (simp [idxBy_len]; done) | (simp [marks_len]; done) | (simp at *; omega))) ?_
              rintro _ _ ⟨ra43, rc43, rfl, rfl⟩
              refine DJ.norm [_, _, _, _] [_, _, _, _] rfl rfl ?_
              refine DJ.yd 23 rfl (by kernel_rfl) (by kernel_rfl) (by kernel_rfl) rfl rfl (Yd.fieldAddr rfl) ?_
              refine DJ.one (i := 24) (by kernel_rfl) ?_
              refine DO.store (v := .slice _ _ _) (us := [_, _, _]) 0 rfl rfl rfl rfl rfl rfl rfl rfl rfl rfl ?_
              refine DJ.done (by kernel_rfl) ?_
              refine CJ.region ?_
              refine LJ.yd rfl (Yd.mvI rfl) ?_
              refine LJ.yd rfl (Yd.sub rfl rfl (by unfold I64; omega)) ?_
              refine LJ.yd rfl (Yd.asI rfl) ?_
              refine LJ.nil ?_
              refine ⟨(_, _, _, _, _, _), ?_, ⟨rfl, rfl, rfl, rfl, trivial⟩, ⟨rfl, trivial⟩, Ent.pick [0, 1, 2, 3, 6, 4, 5] [7] rfl, ?_⟩
              · exact ⟨by omega, by omega, by omega, by simp; omega, by simp⟩
              · dsimp only; omega
          · refine DO.yd rfl rfl rfl (fun _ _ _ => Yd.loadC 1 rfl rfl rfl) ?_
            refine DJ.one (i := 4) (by kernel_rfl) ?_
            refine DO.yd rfl rfl rfl (fun _ _ _ => Yd.loadC 1 rfl rfl rfl) ?_
            refine DJ.one (i := 5) (by kernel_rfl) ?_
            refine DO.call (pickF _ [1, 2]) (pickF _ [0]) rfl rfl rfl (perm_pickF _ [1, 2] [0] rfl) (fun k0 hk0 dk0 k hk dk => pick_ok (hcode.up) (by omega) (by omega)) ?_
            rintro _ _ ⟨x26, rfl, hx26, hy26, rfl⟩
            refine DJ.norm [_, _, _, _] [_, _, _] rfl rfl ?_
            refine DJ.yd 6 rfl (by kernel_rfl) (by kernel_rfl) (by kernel_rfl) rfl rfl (Yd.add rfl rfl (by unfold I64; omega)) ?_
            refine DJ.one (i := 10) (by kernel_rfl) ?_
            refine DO.call (pickF _ [0, 1]) (pickF _ [2]) rfl rfl rfl (perm_pickF _ [0, 1] [2] rfl) (fun k0 hk0 dk0 k hk dk => pick_ok (hcode.up) (by omega) (by omega)) ?_
            rintro _ _ ⟨x31, rfl, hx31, hy31, rfl⟩
            refine DJ.norm [_, _, _, _] [_, _, _] rfl rfl ?_
            refine DJ.yd 11 rfl (by kernel_rfl) (by kernel_rfl) (by kernel_rfl) rfl rfl (Yd.add rfl rfl (by unfold I64; omega)) ?_
            refine DJ.yd 13 rfl (by kernel_rfl) (by kernel_rfl) (by kernel_rfl) rfl rfl (Yd.mvB rfl) ?_
            refine DJ.skip 14 rfl (by kernel_rfl) (by kernel_rfl) (by kernel_rfl) rfl rfl ?_
            refine DJ.skip 15 rfl (by kernel_rfl) (by kernel_rfl) (by kernel_rfl) rfl rfl ?_
            refine DJ.skip 16 rfl (by kernel_rfl) (by kernel_rfl) (by kernel_rfl) rfl rfl ?_
            refine DJ.yd 17 rfl (by kernel_rfl) (by kernel_rfl) (by kernel_rfl) rfl rfl (Yd.pickFB rfl rfl) ?_
            refine DJ.one (i := 19) (by kernel_rfl) ?_
            refine DO.call (pickF _ [0, 1]) (pickF _ [2]) rfl rfl rfl (perm_pickF _ [0, 1] [2] rfl) (fun k0 hk0 dk0 k hk dk => pick_ok (hcode.up) (by omega) (by omega)) ?_
            rintro _ _ ⟨x40, rfl, hx40, hy40, rfl⟩
            refine DJ.norm [_, _, _, _] [_, _, _] rfl rfl ?_
            refine DJ.yd 20 rfl (by kernel_rfl) (by kernel_rfl) (by kernel_rfl) rfl rfl (Yd.build (cs := [_, _, _, _]) rfl) ?_
            refine DJ.one (i := 21) (by kernel_rfl) ?_
            refine DO.op rfl rfl rfl (fun k0 hk0 dk0 => OpR.buildSlice (cs := [_, _, _, _]) rfl rfl) ?_
            rintro _ _ ⟨b32, rfl, rfl⟩
            refine DJ.one (i := 22) (by kernel_rfl) ?_
            refine DO.op rfl rfl rfl (fun k0 hk0 dk0 => OpR.apT (enc := Pane.enc) [⟨_, _, _, _⟩] 1 3 rfl rfl rfl (by first | rfl | omega | (simp; done) | (simp; omega) | (simp [upN_len]; omega) | (simp [idxBy_len]; omega) | (simp [marks_len]; omega) | (simp [upN_len]; done) | (simp [idxBy_len]; done) | (simp [marks_len]; done) | (simp at *; omega)) rfl rfl rfl rfl rfl (by first | rfl | omega | (simp; done) | (simp; omega) | (simp [upN_len]; omega) | (simp [idxBy_len]; omega) | (simp [marks_len]; omega) | (simp [upN_len]; done) | (simp [idxBy_len]; done) | (simp [marks_len]; done) | (simp at *; omega))) ?_
            rintro _ _ ⟨ra43, rc43, rfl, rfl⟩
            refine DJ.norm [_, _, _, _] [_, _, _, _] rfl rfl ?_
            refine DJ.yd 23 rfl (by kernel_rfl) (by kernel_rfl) (by kernel_rfl) rfl rfl (Yd.fieldAddr rfl) ?_
            refine DJ.one (i := 24) (by kernel_rfl) ?_
            refine DO.store (v := .slice _ _ _) (us := [_, _, _]) 0 rfl rfl rfl rfl rfl rfl rfl rfl rfl rfl ?_
            refine DJ.done (by kernel_rfl) ?_
            refine CJ.region ?_
            refine LJ.yd rfl (Yd.mvI rfl) ?_
            refine LJ.yd rfl (Yd.sub rfl rfl (by unfold I64; omega)) ?_
            refine LJ.yd rfl (Yd.asI rfl) ?_
            refine LJ.nil ?_
            refine ⟨(_, _, _, _, _, _), ?_, ⟨rfl, rfl, rfl, rfl, trivial⟩, ⟨rfl, trivial⟩, Ent.pick [0, 1, 2, 3, 6, 4, 5] [7] rfl, ?_⟩
            · exact ⟨by omega, by omega, by omega, by simp; omega, by simp⟩
            · dsimp only; omega
        · refine DO.yd rfl rfl rfl (fun _ _ _ => Yd.loadC 1 rfl rfl rfl) ?_
          refine DJ.three (i := 1) (j := 5) (m := 9) (by kernel_rfl) ?_ ?_ ?_
          · refine DO.yd rfl rfl rfl (fun _ _ _ => Yd.loadC 1 rfl rfl rfl) ?_
            refine DJ.two (i := 5) (j := 9) (by kernel_rfl) ?_ ?_
            · refine DO.call (pickF _ [1, 2]) (pickF _ [0]) rfl rfl rfl (perm_pickF _ [1, 2] [0] rfl) (fun k0 hk0 dk0 k hk dk => pick_ok (hcode.up) (by omega) (by omega)) ?_
              rintro _ _ ⟨x26, rfl, hx26, hy26, rfl⟩
              refine DJ.norm [_, _, _, _] [_, _, _] rfl rfl ?_
              refine DJ.yd 6 rfl (by kernel_rfl) (by kernel_rfl) (by kernel_rfl) rfl rfl (Yd.add rfl rfl (by unfold I64; omega)) ?_
              refine DJ.one (i := 9) (by kernel_rfl) ?_
              refine DO.yd rfl rfl rfl (fun _ _ _ => Yd.loadC 0 rfl rfl rfl) ?_
              refine DJ.one (i := 10) (by kernel_rfl) ?_
              refine DO.call (pickF _ [0, 1]) (pickF _ [2]) rfl rfl rfl (perm_pickF _ [0, 1] [2] rfl) (fun k0 hk0 dk0 k hk dk => pick_ok (hcode.up) (by omega) (by omega)) ?_
              rintro _ _ ⟨x31, rfl, hx31, hy31, rfl⟩
              refine DJ.norm [_, _, _, _] [_, _, _] rfl rfl ?_
              refine DJ.yd 11 rfl (by kernel_rfl) (by kernel_rfl) (by kernel_rfl) rfl rfl (Yd.add rfl rfl (by unfold I64; omega)) ?_
              refine DJ.yd 13 rfl (by kernel_rfl) (by kernel_rfl) (by kernel_rfl) rfl rfl (Yd.mvB rfl) ?_
              refine DJ.skip 14 rfl (by kernel_rfl) (by kernel_rfl) (by kernel_rfl) rfl rfl ?_
              refine DJ.skip 15 rfl (by kernel_rfl) (by kernel_rfl) (by kernel_rfl) rfl rfl ?_
              refine DJ.skip 16 rfl (by kernel_rfl) (by kernel_rfl) (by kernel_rfl) rfl rfl ?_
              refine DJ.yd 17 rfl (by kernel_rfl) (by kernel_rfl) (by kernel_rfl) rfl rfl (Yd.pickFB rfl rfl) ?_
              refine DJ.one (i := 19) (by kernel_rfl) ?_
              refine DO.call (pickF _ [0, 1]) (pickF _ [2]) rfl rfl rfl (perm_pickF _ [0, 1] [2] rfl) (fun k0 hk0 dk0 k hk dk => pick_ok (hcode.up) (by omega) (by omega)) ?_
              rintro _ _ ⟨x40, rfl, hx40, hy40, rfl⟩
              refine DJ.norm [_, _, _, _] [_, _, _] rfl rfl ?_
              refine DJ.yd 20 rfl (by kernel_rfl) (by kernel_rfl) (by kernel_rfl) rfl rfl (Yd.build (cs := [_, _, _, _]) rfl) ?_
              refine DJ.one (i := 21) (by kernel_rfl) ?_
              refine DO.op rfl rfl rfl (fun k0 hk0 dk0 => OpR.buildSlice (cs := [_, _, _, _]) rfl rfl) ?_
              rintro _ _ ⟨b33, rfl, rfl⟩
              refine DJ.one (i := 22) (by kernel_rfl) ?_
              refine DO.op rfl rfl rfl (fun k0 hk0 dk0 => OpR.apT (enc := Pane.enc) [⟨_, _, _, _⟩] 1 3 rfl rfl rfl (by first | rfl | omega | (simp; done) | (simp; omega) | (simp [upN_len]; omega) | (simp [idxBy_len]; omega) | (simp [marks_len]; omega) | (simp [upN_len]; done) | (simp [idxBy_len]; done) | (simp [marks_len]; done) | (simp at *; omega)) rfl rfl rfl rfl rfl (by first | rfl | omega | (simp; done) | (simp; omega) | (simp [upN_len]; omega) | (simp [idxBy_len]; omega) | (simp [marks_len]; omega) | (simp [upN_len]; done) | (simp [idxBy_len]; done) | (simp [marks_len]; done) | (simp at *; omega))) ?_
              rintro _ _ ⟨ra43, rc43, rfl, rfl⟩
              refine DJ.norm [_, _, _, _] [_, _, _, _] rfl rfl ?_
              refine DJ.yd 23 rfl (by kernel_rfl) (by kernel_rfl) (by kernel_rfl) rfl rfl (Yd.fieldAddr rfl) ?_
              refine DJ.one (i := 24) (by kernel_rfl) ?_
              refine DO.store (v := .slice _ _ _) (us := [_, _, _]) 0 rfl rfl rfl rfl rfl rfl rfl rfl rfl rfl ?_
              refine DJ.done (by kernel_rfl) ?_
              refine CJ.region ?_
              refine LJ.yd rfl (Yd.mvI rfl) ?_
              refine LJ.yd rfl (Yd.sub rfl rfl (by unfold I64; omega)) ?_
              refine LJ.yd rfl (Yd.asI rfl) ?_
              refine LJ.nil ?_
              refine ⟨(_, _, _, _, _, _), ?_, ⟨rfl, rfl, rfl, rfl, trivial⟩, ⟨rfl, trivial⟩, Ent.pick [0, 1, 2, 3, 6, 4, 5] [7] rfl, ?_⟩
              · exact ⟨by omega, by omega, by omega, by simp; omega, by simp⟩
              · dsimp only; omega
            · refine DO.yd rfl rfl rfl (fun _ _ _ => Yd.loadC 1 rfl rfl rfl) ?_
              refine DJ.one (i := 5) (by kernel_rfl) ?_
              refine DO.call (pickF _ [1, 2]) (pickF _ [0]) rfl rfl rfl (perm_pickF _ [1, 2] [0] rfl) (fun k0 hk0 dk0 k hk dk => pick_ok (hcode.up) (by omega) (by omega)) ?_
              rintro _ _ ⟨x26, rfl, hx26, hy26, rfl⟩
              refine DJ.norm [_, _, _, _] [_, _, _] rfl rfl ?_
              refine DJ.yd 6 rfl (by kernel_rfl) (by kernel_rfl) (by kernel_rfl) rfl rfl (Yd.add rfl rfl (by unfold I64; omega)) ?_
              refine DJ.one (i := 10) (by kernel_rfl) ?_
              refine DO.call (pickF _ [0, 1]) (pickF _ [2]) rfl rfl rfl (perm_pickF _ [0, 1] [2] rfl) (fun k0 hk0 dk0 k hk dk => pick_ok (hcode.up) (by omega) (by omega)) ?_
              rintro _ _ ⟨x31, rfl, hx31, hy31, rfl⟩
              refine DJ.norm [_, _, _, _] [_, _, _] rfl rfl ?_
              refine DJ.yd 11 rfl (by kernel_rfl) (by kernel_rfl) (by kernel_rfl) rfl rfl (Yd.add rfl rfl (by unfold I64; omega)) ?_
              refine DJ.yd 13 rfl (by kernel_rfl) (by kernel_rfl) (by kernel_rfl) rfl rfl (Yd.mvB rfl) ?_
              refine DJ.skip 14 rfl (by kernel_rfl) (by kernel_rfl) (by kernel_rfl) rfl rfl ?_
              refine DJ.skip 15 rfl (by kernel_rfl) (by kernel_rfl) (by kernel_rfl) rfl rfl ?_
              refine DJ.skip 16 rfl (by kernel_rfl) (by kernel_rfl) (by kernel_rfl) rfl rfl ?_
              refine DJ.yd 17 rfl (by kernel_rfl) (by kernel_rfl) (by kernel_rfl) rfl rfl (Yd.pickFB rfl rfl) ?_
              refine DJ.one (i := 19) (by kernel_rfl) ?_
              refine DO.call (pickF _ [0, 1]) (pickF _ [2]) rfl rfl rfl (perm_pickF _ [0, 1] [2] rfl) (fun k0 hk0 dk0 k hk dk => pick_ok (hcode.up) (by omega) (by omega)) ?_
              rintro _ _ ⟨x40, rfl, hx40, hy40, rfl⟩
              refine DJ.norm [_, _, _, _] [_, _, _] rfl rfl ?_
              refine DJ.yd 20 rfl (by kernel_rfl) (by kernel_rfl) (by kernel_rfl) rfl rfl (Yd.build (cs := [_, _, _, _]) rfl) ?_
              refine DJ.one (i := 21) (by kernel_rfl) ?_
              refine DO.op rfl rfl rfl (fun k0 hk0 dk0 => OpR.buildSlice (cs := [_, _, _, _]) rfl rfl) ?_
              rintro _ _ ⟨b34, rfl, rfl⟩
              refine DJ.one (i := 22) (by kernel_rfl) ?_
              refine DO.op rfl rfl rfl (fun k0 hk0 dk0 => OpR.apT (enc := Pane.enc) [⟨_, _, _, _⟩] 1 3 rfl rfl rfl (by first | rfl | omega | (simp; done) | (simp; omega) | (simp [upN_len]; omega) | (simp [idxBy_len]; omega) | (simp [marks_len]; omega) | (simp [upN_len]; done) | (simp [idxBy_len]; done) | (simp [marks_len]; done) | (simp at *; omega)) rfl rfl rfl rfl rfl (by first | rfl | omega | (simp; done) | (simp; omega) | (simp [upN_len]; omega) | (simp [idxBy_len]; omega) | (simp [marks_len]; omega) | (simp [upN_len]; done) | (simp [idxBy_len]; done) | (simp [marks_len]; done) | (simp at *; omega))) ?_
              rintro _ _ ⟨ra43, rc43, rfl, rfl⟩
              refine DJ.norm [_, _, _, _] [_, _, _, _] rfl rfl ?_
              refine DJ.yd 23 rfl (by kernel_rfl) (by kernel_rfl) (by kernel_rfl) rfl rfl (Yd.fieldAddr rfl) ?_
              refine DJ.one (i := 24) (by kernel_rfl) ?_
              refine DO.store (v := .slice _ _ _) (us := [_, _, _]) 0 rfl rfl rfl rfl rfl rfl rfl rfl rfl rfl ?_
              refine DJ.done (by kernel_rfl) ?_
              refine CJ.region ?_
              refine LJ.yd rfl (Yd.mvI rfl) ?_
              refine LJ.yd rfl (Yd.sub rfl rfl (by unfold I64; omega)) ?_
              refine LJ.yd rfl (Yd.asI rfl) ?_
              refine LJ.nil ?_
              refine ⟨(_, _, _, _, _, _), ?_, ⟨rfl, rfl, rfl, rfl, trivial⟩, ⟨rfl, trivial⟩, Ent.pick [0, 1, 2, 3, 6, 4, 5] [7] rfl, ?_⟩
              · exact ⟨by omega, by omega, by omega, by simp; omega, by simp⟩
              · dsimp only; omega
          · refine DO.call (pickF _ [1, 2]) (pickF _ [0]) rfl rfl rfl (perm_pickF _ [1, 2] [0] rfl) (fun k0 hk0 dk0 k hk dk => pick_ok (hcode.up) (by omega) (by omega)) ?_
            rintro _ _ ⟨x26, rfl, hx26, hy26, rfl⟩
            refine DJ.norm [_, _, _, _] [_, _, _] rfl rfl ?_
            refine DJ.yd 6 rfl (by kernel_rfl) (by kernel_rfl) (by kernel_rfl) rfl rfl (Yd.add rfl rfl (by unfold I64; omega)) ?_
            refine DJ.two (i := 1) (j := 9) (by kernel_rfl) ?_ ?_
            · refine DO.yd rfl rfl rfl (fun _ _ _ => Yd.loadC 0 rfl rfl rfl) ?_
              refine DJ.one (i := 9) (by kernel_rfl) ?_
              refine DO.yd rfl rfl rfl (fun _ _ _ => Yd.loadC 0 rfl rfl rfl) ?_
              refine DJ.one (i := 10) (by kernel_rfl) ?_
              refine DO.call (pickF _ [0, 1]) (pickF _ [2]) rfl rfl rfl (perm_pickF _ [0, 1] [2] rfl) (fun k0 hk0 dk0 k hk dk => pick_ok (hcode.up) (by omega) (by omega)) ?_
              rintro _ _ ⟨x31, rfl, hx31, hy31, rfl⟩
              refine DJ.norm [_, _, _, _] [_, _, _] rfl rfl ?_
              refine DJ.yd 11 rfl (by kernel_rfl) (by kernel_rfl) (by kernel_rfl) rfl rfl (Yd.add rfl rfl (by unfold I64; omega)) ?_
              refine DJ.yd 13 rfl (by kernel_rfl) (by kernel_rfl) (by kernel_rfl) rfl rfl (Yd.mvB rfl) ?_
              refine DJ.skip 14 rfl (by kernel_rfl) (by kernel_rfl) (by kernel_rfl) rfl rfl ?_
              refine DJ.skip 15 rfl (by kernel_rfl) (by kernel_rfl) (by kernel_rfl) rfl rfl ?_
              refine DJ.skip 16 rfl (by kernel_rfl) (by kernel_rfl) (by kernel_rfl) rfl rfl ?_
              refine DJ.yd 17 rfl (by kernel_rfl) (by kernel_rfl) (by kernel_rfl) rfl rfl (Yd.pickFB rfl rfl) ?_
              refine DJ.one (i := 19) (by kernel_rfl) ?_
              refine DO.call (pickF _ [0, 1]) (pickF _ [2]) rfl rfl rfl (perm_pickF _ [0, 1] [2] rfl) (fun k0 hk0 dk0 k hk dk => pick_ok (hcode.up) (by omega) (by omega)) ?_
              rintro _ _ ⟨x40, rfl, hx40, hy40, rfl⟩
              refine DJ.norm [_, _, _, _] [_, _, _] rfl rfl ?_
              refine DJ.yd 20 rfl (by kernel_rfl) (by kernel_rfl) (by kernel_rfl) rfl rfl (Yd.build (cs := [_, _, _, _]) rfl) ?_
              refine DJ.one (i := 21) (by kernel_rfl) ?_
              refine DO.op rfl rfl rfl (fun k0 hk0 dk0 => OpR.buildSlice (cs := [_, _, _, _]) rfl rfl) ?_
              rintro _ _ ⟨b35, rfl, rfl⟩
              refine DJ.one (i := 22) (by kernel_rfl) ?_
              refine DO.op rfl rfl rfl (fun k0 hk0 dk0 => OpR.apT (enc := Pane.enc) [⟨_, _, _, _⟩] 1 3 rfl rfl rfl (by first | rfl | omega | (simp; done) | (simp; omega) | (simp [upN_len]; omega) | (simp [idxBy_len]; omega) | (simp [marks_len]; omega) | (simp [upN_len]; done) | (simp [idxBy_len]; done) | (simp [marks_len]; done) | (simp at *; omega)) rfl rfl rfl rfl rfl (by first | rfl | omega | (simp; done) | (simp; omega) | (simp [upN_len]; omega) | (simp [idxBy_len]; omega) | (simp [marks_len]; omega) | (simp [upN_len]; done) | (simp [idxBy_len]; done) | (simp [marks_len]; done) | (simp at *; omega))) ?_
              rintro _ _ ⟨ra43, rc43, rfl, rfl⟩
              refine DJ.norm [_, _, _, _] [_, _, _, _] rfl rfl ?_
              refine DJ.yd 23 rfl (by kernel_rfl) (by kernel_rfl) (by kernel_rfl) rfl rfl (Yd.fieldAddr rfl) ?_
              refine DJ.one (i := 24) (by kernel_rfl) ?_
              refine DO.store (v := .slice _ _ _) (us := [_, _, _]) 0 rfl rfl rfl rfl rfl rfl rfl rfl rfl rfl ?_
              refine DJ.done (by kernel_rfl) ?_
              refine CJ.region ?_
              refine LJ.yd rfl (Yd.mvI rfl) ?_
              refine LJ.yd rfl (Yd.sub rfl rfl (by unfold I64; omega)) ?_
              refine LJ.yd rfl (Yd.asI rfl) ?_
              refine LJ.nil ?_
              refine ⟨(_, _, _, _, _, _), ?_, ⟨rfl, rfl, rfl, rfl, trivial⟩, ⟨rfl, trivial⟩, Ent.pick [0, 1, 2, 3, 6, 4, 5] [7] rfl, ?_⟩
              · exact ⟨by omega, by omega, by omega, by simp; omega, by simp⟩
              · dsimp only; omega
            · refine DO.yd rfl rfl rfl (fun _ _ _ => Yd.loadC 0 rfl rfl rfl) ?_
              refine DJ.two (i := 1) (j := 10) (by kernel_rfl) ?_ ?_
              · refine DO.yd rfl rfl rfl (fun _ _ _ => Yd.loadC 0 rfl rfl rfl) ?_
                refine DJ.one (i := 10) (by kernel_rfl) ?_
                refine DO.call (pickF _ [0, 1]) (pickF _ [2]) rfl rfl rfl (perm_pickF _ [0, 1] [2] rfl) (fun k0 hk0 dk0 k hk dk => pick_ok (hcode.up) (by omega) (by omega)) ?_
                rintro _ _ ⟨x31, rfl, hx31, hy31, rfl⟩
                refine DJ.norm [_, _, _, _] [_, _, _] rfl rfl ?_
                refine DJ.yd 11 rfl (by kernel_rfl) (by kernel_rfl) (by kernel_rfl) rfl rfl (Yd.add rfl rfl (by unfold I64; omega)) ?_
                refine DJ.yd 13 rfl (by kernel_rfl) (by kernel_rfl) (by kernel_rfl) rfl rfl (Yd.mvB rfl) ?_
                refine DJ.skip 14 rfl (by kernel_rfl) (by kernel_rfl) (by kernel_rfl) rfl rfl ?_
                refine DJ.skip 15 rfl (by kernel_rfl) (by kernel_rfl) (by kernel_rfl) rfl rfl ?_
                refine DJ.skip 16 rfl (by kernel_rfl) (by kernel_rfl) (by kernel_rfl) rfl rfl ?_
                refine DJ.yd 17 rfl (by kernel_rfl) (by kernel_rfl) (by kernel_rfl) rfl rfl (Yd.pickFB rfl rfl) ?_
                refine DJ.one (i := 19) (by kernel_rfl) ?_
                refine DO.call (pickF _ [0, 1]) (pickF _ [2]) rfl rfl rfl (perm_pickF _ [0, 1] [2] rfl) (fun k0 hk0 dk0 k hk dk => pick_ok (hcode.up) (by omega) (by omega)) ?_
                rintro _ _ ⟨x40, rfl, hx40, hy40, rfl⟩
                refine DJ.norm [_, _, _, _] [_, _, _] rfl rfl ?_
                refine DJ.yd 20 rfl (by kernel_rfl) (by kernel_rfl) (by kernel_rfl) rfl rfl (Yd.build (cs := [_, _, _, _]) rfl) ?_
                refine DJ.one (i := 21) (by kernel_rfl) ?_
                refine DO.op rfl rfl rfl (fun k0 hk0 dk0 => OpR.buildSlice (cs := [_, _, _, _]) rfl rfl) ?_
                rintro _ _ ⟨b36, rfl, rfl⟩
                refine DJ.one (i := 22) (by kernel_rfl) ?_
                refine DO.op rfl rfl rfl (fun k0 hk0 dk0 => OpR.apT (enc := Pane.enc) [⟨_, _, _, _⟩] 1 3 rfl rfl rfl (by first | rfl | omega | (simp; done) | (simp; omega) | (simp [upN_len]; omega) | (simp [idxBy_len]; omega) | (simp [marks_len]; omega) | (simp [upN_len]; done) | (simp [idxBy_len]; done) | (simp [marks_len]; done) | (simp at *; omega)) rfl rfl rfl rfl rfl (by first | rfl | omega | (simp; done) | (simp; omega) | (simp [upN_len]; omega) | (simp [idxBy_len]; omega) | (simp [marks_len]; omega) | (simp [upN_len]; done) | (simp [idxBy_len]; done) | (simp [marks_len]; done) | (simp at *; omega))) ?_
                rintro _ _ ⟨ra43, rc43, rfl, rfl⟩
                refine DJ.norm [_, _, _, _] [_, _, _, _] rfl rfl ?_
                refine DJ.yd 23 rfl (by kernel_rfl) (by kernel_rfl) (by kernel_rfl) rfl rfl (Yd.fieldAddr rfl) ?_
                refine DJ.one (i := 24) (by kernel_rfl) ?_
                refine DO.store (v := .slice _ _ _) (us := [_, _, _]) 0 rfl rfl rfl rfl rfl rfl rfl rfl rfl rfl ?_
                refine DJ.done (by kernel_rfl) ?_
                refine CJ.region ?_
                refine LJ.yd rfl (Yd.mvI rfl) ?_
                refine LJ.yd rfl (Yd.sub rfl rfl (by unfold I64; omega)) ?_
                refine LJ.yd rfl (Yd.asI rfl) ?_
                refine LJ.nil ?_
                refine ⟨(_, _, _, _, _, _), ?_, ⟨rfl, rfl, rfl, rfl, trivial⟩, ⟨rfl, trivial⟩, Ent.pick [0, 1, 2, 3, 6, 4, 5] [7] rfl, ?_⟩
                · exact ⟨by omega, by omega, by omega, by simp; omega, by simp⟩
                · dsimp only; omega
              · refine DO.call (pickF _ [0, 1]) (pickF _ [2]) rfl rfl rfl (perm_pickF _ [0, 1] [2] rfl) (fun k0 hk0 dk0 k hk dk => pick_ok (hcode.up) (by omega) (by omega)) ?_
                rintro _ _ ⟨x31, rfl, hx31, hy31, rfl⟩
                refine DJ.norm [_, _, _, _] [_, _, _] rfl rfl ?_
                refine DJ.yd 11 rfl (by kernel_rfl) (by kernel_rfl) (by kernel_rfl) rfl rfl (Yd.add rfl rfl (by unfold I64; omega)) ?_
                refine DJ.yd 13 rfl (by kernel_rfl) (by kernel_rfl) (by kernel_rfl) rfl rfl (Yd.mvB rfl) ?_
                refine DJ.skip 14 rfl (by kernel_rfl) (by kernel_rfl) (by kernel_rfl) rfl rfl ?_
                refine DJ.skip 15 rfl (by kernel_rfl) (by kernel_rfl) (by kernel_rfl) rfl rfl ?_
                refine DJ.skip 16 rfl (by kernel_rfl) (by kernel_rfl) (by kernel_rfl) rfl rfl ?_
                refine DJ.yd 17 rfl (by kernel_rfl) (by kernel_rfl) (by kernel_rfl) rfl rfl (Yd.pickFB rfl rfl) ?_
                refine DJ.two (i := 1) (j := 19) (by kernel_rfl) ?_ ?_
                · refine DO.yd rfl rfl rfl (fun _ _ _ => Yd.loadC 0 rfl rfl rfl) ?_
                  refine DJ.one (i := 19) (by kernel_rfl) ?_
                  refine DO.call (pickF _ [0, 1]) (pickF _ [2]) rfl rfl rfl (perm_pickF _ [0, 1] [2] rfl) (fun k0 hk0 dk0 k hk dk => pick_ok (hcode.up) (by omega) (by omega)) ?_
                  rintro _ _ ⟨x40, rfl, hx40, hy40, rfl⟩
                  refine DJ.norm [_, _, _, _] [_, _, _] rfl rfl ?_
                  refine DJ.yd 20 rfl (by kernel_rfl) (by kernel_rfl) (by kernel_rfl) rfl rfl (Yd.build (cs := [_, _, _, _]) rfl) ?_
                  refine DJ.one (i := 21) (by kernel_rfl) ?_
                  refine DO.op rfl rfl rfl (fun k0 hk0 dk0 => OpR.buildSlice (cs := [_, _, _, _]) rfl rfl) ?_
                  rintro _ _ ⟨b37, rfl, rfl⟩
                  refine DJ.one (i := 22) (by kernel_rfl) ?_
                  refine DO.op rfl rfl rfl (fun k0 hk0 dk0 => OpR.apT (enc := Pane.enc) [⟨_, _, _, _⟩] 1 3 rfl rfl rfl (by first | rfl | omega | (simp; done) | (simp; omega) | (simp [upN_len]; omega) | (simp [idxBy_len]; omega) | (simp [marks_len]; omega) | (simp [upN_len]; done) | (simp [idxBy_len]; done) | (simp [marks_len]; done) | (simp at *; omega)) rfl rfl rfl rfl rfl (by first | rfl | omega | (simp; done) | (simp; omega) | (simp [upN_len]; omega) | (simp [idxBy_len]; omega) | (simp [marks_len]; omega) | (simp [upN_len]; done) | (simp [idxBy_len]; done) | (simp [marks_len]; done) | (simp at *; omega))) ?_
                  rintro _ _ ⟨ra43, rc43, rfl, rfl⟩
                  refine DJ.norm [_, _, _, _] [_, _, _, _] rfl rfl ?_
                  refine DJ.yd 23 rfl (by kernel_rfl) (by kernel_rfl) (by kernel_rfl) rfl rfl (Yd.fieldAddr rfl) ?_
                  refine DJ.one (i := 24) (by kernel_rfl) ?_
                  refine DO.store (v := .slice _ _ _) (us := [_, _, _]) 0 rfl rfl rfl rfl rfl rfl rfl rfl rfl rfl ?_
                  refine DJ.done (by kernel_rfl) ?_
                  refine CJ.region ?_
                  refine LJ.yd rfl (Yd.mvI rfl) ?_
                  refine LJ.yd rfl (Yd.sub rfl rfl (by unfold I64; omega)) ?_
                  refine LJ.yd rfl (Yd.asI rfl) ?_
                  refine LJ.nil ?_
                  refine ⟨(_, _, _, _, _, _), ?_, ⟨rfl, rfl, rfl, rfl, trivial⟩, ⟨rfl, trivial⟩, Ent.pick [0, 1, 2, 3, 6, 4, 5] [7] rfl, ?_⟩
                  · exact ⟨by omega, by omega, by omega, by simp; omega, by simp⟩
                  · dsimp only; omega
                · refine DO.call (pickF _ [0, 1]) (pickF _ [2]) rfl rfl rfl (perm_pickF _ [0, 1] [2] rfl) (fun k0 hk0 dk0 k hk dk => pick_ok (hcode.up) (by omega) (by omega)) ?_
                  rintro _ _ ⟨x40, rfl, hx40, hy40, rfl⟩
                  refine DJ.norm [_, _, _, _] [_, _, _] rfl rfl ?_
                  refine DJ.yd 20 rfl (by kernel_rfl) (by kernel_rfl) (by kernel_rfl) rfl rfl (Yd.build (cs := [_, _, _, _]) rfl) ?_
                  refine DJ.two (i := 1) (j := 21) (by kernel_rfl) ?_ ?_
                  · refine DO.yd rfl rfl rfl (fun _ _ _ => Yd.loadC 0 rfl rfl rfl) ?_
                    refine DJ.one (i := 21) (by kernel_rfl) ?_
                    refine DO.op rfl rfl rfl (fun k0 hk0 dk0 => OpR.buildSlice (cs := [_, _, _, _]) rfl rfl) ?_
                    rintro _ _ ⟨b38, rfl, rfl⟩
                    refine DJ.one (i := 22) (by kernel_rfl) ?_
                    refine DO.op rfl rfl rfl (fun k0 hk0 dk0 => OpR.apT (enc := Pane.enc) [⟨_, _, _, _⟩] 1 3 rfl rfl rfl (by first | rfl | omega | (simp; done) | (simp; omega) | (simp [upN_len]; omega) | (simp [idxBy_len]; omega) | (simp [marks_len]; omega) | (simp [upN_len]; done) | (simp [idxBy_len]; done) | (simp [marks_len]; done) | (simp at *; omega)) rfl rfl rfl rfl rfl (by first | rfl | omega | (simp; done) | (simp; omega) | (simp [upN_len]; omega) | (simp [idxBy_len]; omega) | (simp [marks_len]; omega) | (simp [upN_len]; done) | (simp [idxBy_len]; done) | (simp [marks_len]; done) | (simp at *; omega))) ?_
                    rintro _ _ ⟨ra43, rc43, rfl, rfl⟩
                    refine DJ.norm [_, _, _, _] [_, _, _, _] rfl rfl ?_
                    refine DJ.yd 23 rfl (by kernel_rfl) (by kernel_rfl) (by kernel_rfl) rfl rfl (Yd.fieldAddr rfl) ?_
                    refine DJ.one (i := 24) (by kernel_rfl) ?_
                    refine DO.store (v := .slice _ _ _) (us := [_, _, _]) 0 rfl rfl rfl rfl rfl rfl rfl rfl rfl rfl ?_
                    refine DJ.done (by kernel_rfl) ?_
                    refine CJ.region ?_
                    refine LJ.yd rfl (Yd.mvI rfl) ?_
                    refine LJ.yd rfl (Yd.sub rfl rfl (by unfold I64; omega)) ?_
                    refine LJ.yd rfl (Yd.asI rfl) ?_
                    refine LJ.nil ?_
                    refine ⟨(_, _, _, _, _, _), ?_, ⟨rfl, rfl, rfl, rfl, trivial⟩, ⟨rfl, trivial⟩, Ent.pick [0, 1, 2, 3, 6, 4, 5] [7] rfl, ?_⟩
                    · exact ⟨by omega, by omega, by omega, by simp; omega, by simp⟩
                    · dsimp only; omega
                  · refine DO.op rfl rfl rfl (fun k0 hk0 dk0 => OpR.buildSlice (cs := [_, _, _, _]) rfl rfl) ?_
                    rintro _ _ ⟨b39, rfl, rfl⟩
                    refine DJ.one (i := 1) (by kernel_rfl) ?_
                    refine DO.yd rfl rfl rfl (fun _ _ _ => Yd.loadC 0 rfl rfl rfl) ?_
                    refine DJ.one (i := 22) (by kernel_rfl) ?_
                    refine DO.op rfl rfl rfl (fun k0 hk0 dk0 => OpR.apT (enc := Pane.enc) [⟨_, _, _, _⟩] 1 3 rfl rfl rfl (by first | rfl | omega | (simp; done) | (simp; omega) | (simp [upN_len]; omega) | (simp [idxBy_len]; omega) | (simp [marks_len]; omega) | (simp [upN_len]; done) | (simp [idxBy_len]; done) | (simp [marks_len]; done) | (simp at *; omega)) rfl rfl rfl rfl rfl (by first | rfl | omega | (simp; done) | (simp; omega) | (simp [upN_len]; omega) | (simp [idxBy_len]; omega) | (simp [marks_len]; omega) | (simp [upN_len]; done) | (simp [idxBy_len]; done) | (simp [marks_len]; done) | (simp at *; omega))) ?_
                    rintro _ _ ⟨ra43, rc43, rfl, rfl⟩
                    refine DJ.norm [_, _, _, _] [_, _, _, _] rfl rfl ?_
                    refine DJ.yd 23 rfl (by kernel_rfl) (by kernel_rfl) (by kernel_rfl) rfl rfl (Yd.fieldAddr rfl) ?_
                    refine DJ.one (i := 24) (by kernel_rfl) ?_
                    refine DO.store (v := .slice _ _ _) (us := [_, _, _]) 0 rfl rfl rfl rfl rfl rfl rfl rfl rfl rfl ?_
                    refine DJ.done (by kernel_rfl) ?_
                    refine CJ.region ?_
                    refine LJ.yd rfl (Yd.mvI rfl) ?_
                    refine LJ.yd rfl (Yd.sub rfl rfl (by unfold I64; omega)) ?_
                    refine LJ.yd rfl (Yd.asI rfl) ?_
                    refine LJ.nil ?_
                    refine ⟨(_, _, _, _, _, _), ?_, ⟨rfl, rfl, rfl, rfl, trivial⟩, ⟨rfl, trivial⟩, Ent.pick [0, 1, 2, 3, 6, 4, 5] [7] rfl, ?_⟩
                    · exact ⟨by omega, by omega, by omega, by simp; omega, by simp⟩
                    · dsimp only; omega
          · refine DO.yd rfl rfl rfl (fun _ _ _ => Yd.loadC 1 rfl rfl rfl) ?_
            refine DJ.two (i := 1) (j := 5) (by kernel_rfl) ?_ ?_
            · refine DO.yd rfl rfl rfl (fun _ _ _ => Yd.loadC 1 rfl rfl rfl) ?_
              refine DJ.one (i := 5) (by kernel_rfl) ?_
              refine DO.call (pickF _ [1, 2]) (pickF _ [0]) rfl rfl rfl (perm_pickF _ [1, 2] [0] rfl) (fun k0 hk0 dk0 k hk dk => pick_ok (hcode.up) (by omega) (by omega)) ?_
              rintro _ _ ⟨x26, rfl, hx26, hy26, rfl⟩
              refine DJ.norm [_, _, _, _] [_, _, _] rfl rfl ?_
              refine DJ.yd 6 rfl (by kernel_rfl) (by kernel_rfl) (by kernel_rfl) rfl rfl (Yd.add rfl rfl (by unfold I64; omega)) ?_
              refine DJ.one (i := 10) (by kernel_rfl) ?_
              refine DO.call (pickF _ [0, 1]) (pickF _ [2]) rfl rfl rfl (perm_pickF _ [0, 1] [2] rfl) (fun k0 hk0 dk0 k hk dk => pick_ok (hcode.up) (by omega) (by omega)) ?_
              rintro _ _ ⟨x31, rfl, hx31, hy31, rfl⟩
              refine DJ.norm [_, _, _, _] [_, _, _] rfl rfl ?_
              refine DJ.yd 11 rfl (by kernel_rfl) (by kernel_rfl) (by kernel_rfl) rfl rfl (Yd.add rfl rfl (by unfold I64; omega)) ?_
              refine DJ.yd 13 rfl (by kernel_rfl) (by kernel_rfl) (by kernel_rfl) rfl rfl (Yd.mvB rfl) ?_
              refine DJ.skip 14 rfl (by kernel_rfl) (by kernel_rfl) (by kernel_rfl) rfl rfl ?_
              refine DJ.skip 15 rfl (by kernel_rfl) (by kernel_rfl) (by kernel_rfl) rfl rfl ?_
              refine DJ.skip 16 rfl (by kernel_rfl) (by kernel_rfl) (by kernel_rfl) rfl rfl ?_
              refine DJ.yd 17 rfl (by kernel_rfl) (by kernel_rfl) (by kernel_rfl) rfl rfl (Yd.pickFB rfl rfl) ?_
              refine DJ.one (i := 19) (by kernel_rfl) ?_
              refine DO.call (pickF _ [0, 1]) (pickF _ [2]) rfl rfl rfl (perm_pickF _ [0, 1] [2] rfl) (fun k0 hk0 dk0 k hk dk => pick_ok (hcode.up) (by omega) (by omega)) ?_
              rintro _ _ ⟨x40, rfl, hx40, hy40, rfl⟩
              refine DJ.norm [_, _, _, _] [_, _, _] rfl rfl ?_
              refine DJ.yd 20 rfl (by kernel_rfl) (by kernel_rfl) (by kernel_rfl) rfl rfl (Yd.build (cs := [_, _, _, _]) rfl) ?_
              refine DJ.one (i := 21) (by kernel_rfl) ?_
              refine DO.op rfl rfl rfl (fun k0 hk0 dk0 => OpR.buildSlice (cs := [_, _, _, _]) rfl rfl) ?_
              rintro _ _ ⟨b40, rfl, rfl⟩
              refine DJ.one (i := 22) (by kernel_rfl) ?_
              refine DO.op rfl rfl rfl (fun k0 hk0 dk0 => OpR.apT (enc := Pane.enc) [⟨_, _, _, _⟩] 1 3 rfl rfl rfl (by first | rfl | omega | (simp; done) | (simp; omega) | (simp [upN_len]; omega) | (simp [idxBy_len]; omega) | (simp [marks_len]; omega) | (simp [upN_len]; done) | (simp [idxBy_len]; done) | (simp [marks_len]; done) | (simp at *; omega)) rfl rfl rfl rfl rfl (by first | rfl | omega | (simp; done) | (simp; omega) | (simp [upN_len]; omega) | (simp [idxBy_len]; omega) | (simp [marks_len]; omega) | (simp [upN_len]; done) | (simp [idxBy_len]; done) | (simp [marks_len]; done) | (simp at *; omega))) ?_
              rintro _ _ ⟨ra43, rc43, rfl, rfl⟩
              refine DJ.norm [_, _, _, _] [_, _, _, _] rfl rfl ?_
              refine DJ.yd 23 rfl (by kernel_rfl) (by kernel_rfl) (by kernel_rfl) rfl rfl (Yd.fieldAddr rfl) ?_
              refine DJ.one (i := 24) (by kernel_rfl) ?_
              refine DO.store (v := .slice _ _ _) (us := [_, _, _]) 0 rfl rfl rfl rfl rfl rfl rfl rfl rfl rfl ?_
              refine DJ.done (by kernel_rfl) ?_
              refine CJ.region ?_
              refine LJ.yd rfl (Yd.mvI rfl) ?_
              refine LJ.yd rfl (Yd.sub rfl rfl (by unfold I64; omega)) ?_
              refine LJ.yd rfl (Yd.asI rfl) ?_
              refine LJ.nil ?_
              refine ⟨(_, _, _, _, _, _), ?_, ⟨rfl, rfl, rfl, rfl, trivial⟩, ⟨rfl, trivial⟩, Ent.pick [0, 1, 2, 3, 6, 4, 5] [7] rfl, ?_⟩
              · exact ⟨by omega, by omega, by omega, by simp; omega, by simp⟩
              · dsimp only; omega
            · refine DO.call (pickF _ [1, 2]) (pickF _ [0]) rfl rfl rfl (perm_pickF _ [1, 2] [0] rfl) (fun k0 hk0 dk0 k hk dk => pick_ok (hcode.up) (by omega) (by omega)) ?_
              rintro _ _ ⟨x26, rfl, hx26, hy26, rfl⟩
              refine DJ.norm [_, _, _, _] [_, _, _] rfl rfl ?_
              refine DJ.yd 6 rfl (by kernel_rfl) (by kernel_rfl) (by kernel_rfl) rfl rfl (Yd.add rfl rfl (by unfold I64; omega)) ?_
              refine DJ.two (i := 1) (j := 10) (by kernel_rfl) ?_ ?_
              · refine DO.yd rfl rfl rfl (fun _ _ _ => Yd.loadC 0 rfl rfl rfl) ?_
                refine DJ.one (i := 10) (by kernel_rfl) ?_
                refine DO.call (pickF _ [0, 1]) (pickF _ [2]) rfl rfl rfl (perm_pickF _ [0, 1] [2] rfl) (fun k0 hk0 dk0 k hk dk => pick_ok (hcode.up) (by omega) (by omega)) ?_
                rintro _ _ ⟨x31, rfl, hx31, hy31, rfl⟩
                refine DJ.norm [_, _, _, _] [_, _, _] rfl rfl ?_
                refine DJ.yd 11 rfl (by kernel_rfl) (by kernel_rfl) (by kernel_rfl) rfl rfl (Yd.add rfl rfl (by unfold I64; omega)) ?_
                refine DJ.yd 13 rfl (by kernel_rfl) (by kernel_rfl) (by kernel_rfl) rfl rfl (Yd.mvB rfl) ?_
                refine DJ.skip 14 rfl (by kernel_rfl) (by kernel_rfl) (by kernel_rfl) rfl rfl ?_
                refine DJ.skip 15 rfl (by kernel_rfl) (by kernel_rfl) (by kernel_rfl) rfl rfl ?_
                refine DJ.skip 16 rfl (by kernel_rfl) (by kernel_rfl) (by kernel_rfl) rfl rfl ?_
                refine DJ.yd 17 rfl (by kernel_rfl) (by kernel_rfl) (by kernel_rfl) rfl rfl (Yd.pickFB rfl rfl) ?_
                refine DJ.one (i := 19) (by kernel_rfl) ?_
                refine DO.call (pickF _ [0, 1]) (pickF _ [2]) rfl rfl rfl (perm_pickF _ [0, 1] [2] rfl) (fun k0 hk0 dk0 k hk dk => pick_ok (hcode.up) (by omega) (by omega)) ?_
                rintro _ _ ⟨x40, rfl, hx40, hy40, rfl⟩
                refine DJ.norm [_, _, _, _] [_, _, _] rfl rfl ?_
                refine DJ.yd 20 rfl (by kernel_rfl) (by kernel_rfl) (by kernel_rfl) rfl rfl (Yd.build (cs := [_, _, _, _]) rfl) ?_
                refine DJ.one (i := 21) (by kernel_rfl) ?_
                refine DO.op rfl rfl rfl (fun k0 hk0 dk0 => OpR.buildSlice (cs := [_, _, _, _]) rfl rfl) ?_
                rintro _ _ ⟨b41, rfl, rfl⟩
                refine DJ.one (i := 22) (by kernel_rfl) ?_
                refine DO.op rfl rfl rfl (fun k0 hk0 dk0 => OpR.apT (enc := Pane.enc) [⟨_, _, _, _⟩] 1 3 rfl rfl rfl (by first | rfl | omega | (simp; done) | (simp; omega) | (simp [upN_len]; omega) | (simp [idxBy_len]; omega) | (simp [marks_len]; omega) | (simp [upN_len]; done) | (simp [idxBy_len]; done) | (simp [marks_len]; done) | (simp at *; omega)) rfl rfl rfl rfl rfl (by first | rfl | omega | (simp; done) | (simp; omega) | (simp [upN_len]; omega) | (simp [idxBy_len]; omega) | (simp [marks_len]; omega) | (simp [upN_len]; done) | (simp [idxBy_len]; done) | (simp [marks_len]; done) | (simp at *; omega))) ?_
                rintro _ _ ⟨ra43, rc43, rfl, rfl⟩
                refine DJ.norm [_, _, _, _] [_, _, _, _] rfl rfl ?_
                refine DJ.yd 23 rfl (by kernel_rfl) (by kernel_rfl) (by kernel_rfl) rfl rfl (Yd.fieldAddr rfl) ?_
                refine DJ.one (i := 24) (by kernel_rfl) ?_
                refine DO.store (v := .slice _ _ _) (us := [_, _, _]) 0 rfl rfl rfl rfl rfl rfl rfl rfl rfl rfl ?_
                refine DJ.done (by kernel_rfl) ?_
                refine CJ.region ?_
                refine LJ.yd rfl (Yd.mvI rfl) ?_
                refine LJ.yd rfl (Yd.sub rfl rfl (by unfold I64; omega)) ?_
                refine LJ.yd rfl (Yd.asI rfl) ?_
                refine LJ.nil ?_
                refine ⟨(_, _, _, _, _, _), ?_, ⟨rfl, rfl, rfl, rfl, trivial⟩, ⟨rfl, trivial⟩, Ent.pick [0, 1, 2, 3, 6, 4, 5] [7] rfl, ?_⟩
                · exact ⟨by omega, by omega, by omega, by simp; omega, by simp⟩
                · dsimp only; omega
              · refine DO.call (pickF _ [0, 1]) (pickF _ [2]) rfl rfl rfl (perm_pickF _ [0, 1] [2] rfl) (fun k0 hk0 dk0 k hk dk => pick_ok (hcode.up) (by omega) (by omega)) ?_
                rintro _ _ ⟨x31, rfl, hx31, hy31, rfl⟩
                refine DJ.norm [_, _, _, _] [_, _, _] rfl rfl ?_
                refine DJ.yd 11 rfl (by kernel_rfl) (by kernel_rfl) (by kernel_rfl) rfl rfl (Yd.add rfl rfl (by unfold I64; omega)) ?_
                refine DJ.yd 13 rfl (by kernel_rfl) (by kernel_rfl) (by kernel_rfl) rfl rfl (Yd.mvB rfl) ?_
                refine DJ.skip 14 rfl (by kernel_rfl) (by kernel_rfl) (by kernel_rfl) rfl rfl ?_
                refine DJ.skip 15 rfl (by kernel_rfl) (by kernel_rfl) (by kernel_rfl) rfl rfl ?_
                refine DJ.skip 16 rfl (by kernel_rfl) (by kernel_rfl) (by kernel_rfl) rfl rfl ?_
                refine DJ.yd 17 rfl (by kernel_rfl) (by kernel_rfl) (by kernel_rfl) rfl rfl (Yd.pickFB rfl rfl) ?_
                refine DJ.two (i := 1) (j := 19) (by kernel_rfl) ?_ ?_
                · refine DO.yd rfl rfl rfl (fun _ _ _ => Yd.loadC 0 rfl rfl rfl) ?_
                  refine DJ.one (i := 19) (by kernel_rfl) ?_
                  refine DO.call (pickF _ [0, 1]) (pickF _ [2]) rfl rfl rfl (perm_pickF _ [0, 1] [2] rfl) (fun k0 hk0 dk0 k hk dk => pick_ok (hcode.up) (by omega) (by omega)) ?_
                  rintro _ _ ⟨x40, rfl, hx40, hy40, rfl⟩
                  refine DJ.norm [_, _, _, _] [_, _, _] rfl rfl ?_
                  refine DJ.yd 20 rfl (by kernel_rfl) (by kernel_rfl) (by kernel_rfl) rfl rfl (Yd.build (cs := [_, _, _, _]) rfl) ?_
                  refine DJ.one (i := 21) (by kernel_rfl) ?_
                  refine DO.op rfl rfl rfl (fun k0 hk0 dk0 => OpR.buildSlice (cs := [_, _, _, _]) rfl rfl) ?_
                  rintro _ _ ⟨b42, rfl, rfl⟩
                  refine DJ.one (i := 22) (by kernel_rfl) ?_
                  refine DO.op rfl rfl rfl (fun k0 hk0 dk0 => OpR.apT (enc := Pane.enc) [⟨_, _, _, _⟩] 1 3 rfl rfl rfl (by first | rfl | omega | (simp; done) | (simp; omega) | (simp [upN_len]; omega) | (simp [idxBy_len]; omega) | (simp [marks_len]; omega) | (simp [upN_len]; done) | (simp [idxBy_len]; done) | (simp [marks_len]; done) | (simp at *; omega)) rfl rfl rfl rfl rfl (by first | rfl | omega | (simp; done) | (simp; omega) | (simp [upN_len]; omega) | (simp [idxBy_len]; omega) | (simp [marks_len]; omega) | (simp [upN_len]; done) | (simp [idxBy_len]; done) | (simp [marks_len]; done) | (simp at *; omega))) ?_
                  rintro _ _ ⟨ra43, rc43, rfl, rfl⟩
                  refine DJ.norm [_, _, _, _] [_, _, _, _] rfl rfl ?_
                  refine DJ.yd 23 rfl (by kernel_rfl) (by kernel_rfl) (by kernel_rfl) rfl rfl (Yd.fieldAddr rfl) ?_
                  refine DJ.one (i := 24) (by kernel_rfl) ?_
                  refine DO.store (v := .slice _ _ _) (us := [_, _, _]) 0 rfl rfl rfl rfl rfl rfl rfl rfl rfl rfl ?_
                  refine DJ.done (by kernel_rfl) ?_
                  refine CJ.region ?_
                  refine LJ.yd rfl (Yd.mvI rfl) ?_
                  refine LJ.yd rfl (Yd.sub rfl rfl (by unfold I64; omega)) ?_
                  refine LJ.yd rfl (Yd.asI rfl) ?_
                  refine LJ.nil ?_
                  refine ⟨(_, _, _, _, _, _), ?_, ⟨rfl, rfl, rfl, rfl, trivial⟩, ⟨rfl, trivial⟩, Ent.pick [0, 1, 2, 3, 6, 4, 5] [7] rfl, ?_⟩
                  · exact ⟨by omega, by omega, by omega, by simp; omega, by simp⟩
                  · dsimp only; omega
                · refine DO.call (pickF _ [0, 1]) (pickF _ [2]) rfl rfl rfl (perm_pickF _ [0, 1] [2] rfl) (fun k0 hk0 dk0 k hk dk => pick_ok (hcode.up) (by omega) (by omega)) ?_
                  rintro _ _ ⟨x40, rfl, hx40, hy40, rfl⟩
                  refine DJ.norm [_, _, _, _] [_, _, _] rfl rfl ?_
                  refine DJ.yd 20 rfl (by kernel_rfl) (by kernel_rfl) (by kernel_rfl) rfl rfl (Yd.build (cs := [_, _, _, _]) rfl) ?_
                  refine DJ.two (i := 1) (j := 21) (by kernel_rfl) ?_ ?_
                  · refine DO.yd rfl rfl rfl (fun _ _ _ => Yd.loadC 0 rfl rfl rfl) ?_
                    refine DJ.one (i := 21) (by kernel_rfl) ?_
                    refine DO.op rfl rfl rfl (fun k0 hk0 dk0 => OpR.buildSlice (cs := [_, _, _, _]) rfl rfl) ?_
                    rintro _ _ ⟨b43, rfl, rfl⟩
                    refine DJ.one (i := 22) (by kernel_rfl) ?_
                    refine DO.op rfl rfl rfl (fun k0 hk0 dk0 => OpR.apT (enc := Pane.enc) [⟨_, _, _, _⟩] 1 3 rfl rfl rfl (by first | rfl | omega | (simp; done) | (simp; omega) | (simp [upN_len]; omega) | (simp [idxBy_len]; omega) | (simp [marks_len]; omega) | (simp [upN_len]; done) | (simp [idxBy_len]; done) | (simp [marks_len]; done) | (simp at *; omega)) rfl rfl rfl rfl rfl (by first | rfl | omega | (simp; done) | (simp; omega) | (simp [upN_len]; omega) | (simp [idxBy_len]; omega) | (simp [marks_len]; omega) | (simp [upN_len]; done) | (simp [idxBy_len]; done) | (simp [marks_len]; done) | (simp at *; omega))) ?_
                    rintro _ _ ⟨ra43, rc43, rfl, rfl⟩
                    refine DJ.norm [_, _, _, _] [_, _, _, _] rfl rfl ?_
                    refine DJ.yd 23 rfl (by kernel_rfl) (by kernel_rfl) (by kernel_rfl) rfl rfl (Yd.fieldAddr rfl) ?_
                    refine DJ.one (i := 24) (by kernel_rfl) ?_
                    refine DO.store (v := .slice _ _ _) (us := [_, _, _]) 0 rfl rfl rfl rfl rfl rfl rfl rfl rfl rfl ?_
                    refine DJ.done (by kernel_rfl) ?_
                    refine CJ.region ?_
                    refine LJ.yd rfl (Yd.mvI rfl) ?_
                    refine LJ.yd rfl (Yd.sub rfl rfl (by unfold I64; omega)) ?_
                    refine LJ.yd rfl (Yd.asI rfl) ?_
                    refine LJ.nil ?_
                    refine ⟨(_, _, _, _, _, _), ?_, ⟨rfl, rfl, rfl, rfl, trivial⟩, ⟨rfl, trivial⟩, Ent.pick [0, 1, 2, 3, 6, 4, 5] [7] rfl, ?_⟩
                    · exact ⟨by omega, by omega, by omega, by simp; omega, by simp⟩
                    · dsimp only; omega
                  · refine DO.op rfl rfl rfl (fun k0 hk0 dk0 => OpR.buildSlice (cs := [_, _, _, _]) rfl rfl) ?_
                    rintro _ _ ⟨b44, rfl, rfl⟩
                    refine DJ.one (i := 1) (by kernel_rfl) ?_
                    refine DO.yd rfl rfl rfl (fun _ _ _ => Yd.loadC 0 rfl rfl rfl) ?_
                    refine DJ.one (i := 22) (by kernel_rfl) ?_
                    refine DO.op rfl rfl rfl (fun k0 hk0 dk0 => OpR.apT (enc := Pane.enc) [⟨_, _, _, _⟩] 1 3 rfl rfl rfl (by first | rfl | omega | (simp; done) | (simp; omega) | (simp [upN_len]; omega) | (simp [idxBy_len]; omega) | (simp [marks_len]; omega) | (simp [upN_len]; done) | (simp [idxBy_len]; done) | (simp [marks_len]; done) | (simp at *; omega)) rfl rfl rfl rfl rfl (by first | rfl | omega | (simp; done) | (simp; omega) | (simp [upN_len]; omega) | (simp [idxBy_len]; omega) | (simp [marks_len]; omega) | (simp [upN_len]; done) | (simp [idxBy_len]; done) | (simp [marks_len]; done) | (simp at *; omega))) ?_
                    rintro _ _ ⟨ra43, rc43, rfl, rfl⟩
                    refine DJ.norm [_, _, _, _] [_, _, _, _] rfl rfl ?_
                    refine DJ.yd 23 rfl (by kernel_rfl) (by kernel_rfl) (by kernel_rfl) rfl rfl (Yd.fieldAddr rfl) ?_
                    refine DJ.one (i := 24) (by kernel_rfl) ?_
                    refine DO.store (v := .slice _ _ _) (us := [_, _, _]) 0 rfl rfl rfl rfl rfl rfl rfl rfl rfl rfl ?_
                    refine DJ.done (by kernel_rfl) ?_
                    refine CJ.region ?_
                    refine LJ.yd rfl (Yd.mvI rfl) ?_
                    refine LJ.yd rfl (Yd.sub rfl rfl (by unfold I64; omega)) ?_
                    refine LJ.yd rfl (Yd.asI rfl) ?_
                    refine LJ.nil ?_
                    refine ⟨(_, _, _, _, _, _), ?_, ⟨rfl, rfl, rfl, rfl, trivial⟩, ⟨rfl, trivial⟩, Ent.pick [0, 1, 2, 3, 6, 4, 5] [7] rfl, ?_⟩
                    · exact ⟨by omega, by omega, by omega, by simp; omega, by simp⟩
                    · dsimp only; omega
        · refine DO.yd rfl rfl rfl (fun _ _ _ => Yd.loadC 1 rfl rfl rfl) ?_
          refine DJ.two (i := 1) (j := 4) (by kernel_rfl) ?_ ?_
          · refine DO.yd rfl rfl rfl (fun _ _ _ => Yd.loadC 1 rfl rfl rfl) ?_
            refine DJ.one (i := 4) (by kernel_rfl) ?_
            refine DO.yd rfl rfl rfl (fun _ _ _ => Yd.loadC 1 rfl rfl rfl) ?_
            refine DJ.one (i := 5) (by kernel_rfl) ?_
            refine DO.call (pickF _ [1, 2]) (pickF _ [0]) rfl rfl rfl (perm_pickF _ [1, 2] [0] rfl) (fun k0 hk0 dk0 k hk dk => pick_ok (hcode.up) (by omega) (by omega)) ?_
            rintro _ _ ⟨x26, rfl, hx26, hy26, rfl⟩
            refine DJ.norm [_, _, _, _] [_, _, _] rfl rfl ?_
            refine DJ.yd 6 rfl (by kernel_rfl) (by kernel_rfl) (by kernel_rfl) rfl rfl (Yd.add rfl rfl (by unfold I64; omega)) ?_
            refine DJ.one (i := 10) (by kernel_rfl) ?_
            refine DO.call (pickF _ [0, 1]) (pickF _ [2]) rfl rfl rfl (perm_pickF _ [0, 1] [2] rfl) (fun k0 hk0 dk0 k hk dk => pick_ok (hcode.up) (by omega) (by omega)) ?_
            rintro _ _ ⟨x31, rfl, hx31, hy31, rfl⟩
            refine DJ.norm [_, _, _, _] [_, _, _] rfl rfl ?_
            refine DJ.yd 11 rfl (by kernel_rfl) (by kernel_rfl) (by kernel_rfl) rfl rfl (Yd.add rfl rfl (by unfold I64; omega)) ?_
            refine DJ.yd 13 rfl (by kernel_rfl) (by kernel_rfl) (by kernel_rfl) rfl rfl (Yd.mvB rfl) ?_
            refine DJ.skip 14 rfl (by kernel_rfl) (by kernel_rfl) (by kernel_rfl) rfl rfl ?_
            refine DJ.skip 15 rfl (by kernel_rfl) (by kernel_rfl) (by kernel_rfl) rfl rfl ?_
            refine DJ.skip 16 rfl (by kernel_rfl) (by kernel_rfl) (by kernel_rfl) rfl rfl ?_
            refine DJ.yd 17 rfl (by kernel_rfl) (by kernel_rfl) (by kernel_rfl) rfl rfl (Yd.pickFB rfl rfl) ?_
            refine DJ.one (i := 19) (by kernel_rfl) ?_
            refine DO.call (pickF _ [0, 1]) (pickF _ [2]) rfl rfl rfl (perm_pickF _ [0, 1] [2] rfl) (fun k0 hk0 dk0 k hk dk => pick_ok (hcode.up) (by omega) (by omega)) ?_
            rintro _ _ ⟨x40, rfl, hx40, hy40, rfl⟩
            refine DJ.norm [_, _, _, _] [_, _, _] rfl rfl ?_
            refine DJ.yd 20 rfl (by kernel_rfl) (by kernel_rfl) (by kernel_rfl) rfl rfl (Yd.build (cs := [_, _, _, _]) rfl) ?_
            refine DJ.one (i := 21) (by kernel_rfl) ?_
            refine DO.op rfl rfl rfl (fun k0 hk0 dk0 => OpR.buildSlice (cs := [_, _, _, _]) rfl rfl) ?_
            rintro _ _ ⟨b45, rfl, rfl⟩
            refine DJ.one (i := 22) (by kernel_rfl) ?_
            refine DO.op rfl rfl rfl (fun k0 hk0 dk0 => OpR.apT (enc := Pane.enc) [⟨_, _, _, _⟩] 1 3 rfl rfl rfl (by first | rfl | omega | (simp; done) | (simp; omega) | (simp [upN_len]; omega) | (simp [idxBy_len]; omega) | (simp [marks_len]; omega) | (simp [upN_len]; done) | (simp [idxBy_len]; done) | (simp [marks_len]; done) | (simp at *; omega)) rfl rfl rfl rfl rfl (by first | rfl | omega | (simp; done) | (simp; omega) | (simp [upN_len]; omega) | (simp [idxBy_len]; omega) | (simp [marks_len]; omega) | (simp [upN_len]; done) | (simp [idxBy_len]; done) | (simp [marks_len]; done) | (simp at *; omega))) ?_
            rintro _ _ ⟨ra43, rc43, rfl, rfl⟩
            refine DJ.norm [_, _, _, _] [_, _, _, _] rfl rfl ?_
            refine DJ.yd 23 rfl (by kernel_rfl) (by kernel_rfl) (by kernel_rfl) rfl rfl (Yd.fieldAddr rfl) ?_
            refine DJ.one (i := 24) (by kernel_rfl) ?_
            refine DO.store (v := .slice _ _ _) (us := [_, _, _]) 0 rfl rfl rfl rfl rfl rfl rfl rfl rfl rfl ?_
            refine DJ.done (by kernel_rfl) ?_
            refine CJ.region ?_
            refine LJ.yd rfl (Yd.mvI rfl) ?_
            refine LJ.yd rfl (Yd.sub rfl rfl (by unfold I64; omega)) ?_
            refine LJ.yd rfl (Yd.asI rfl) ?_
            refine LJ.nil ?_
            refine ⟨(_, _, _, _, _, _), ?_, ⟨rfl, rfl, rfl, rfl, trivial⟩, ⟨rfl, trivial⟩, Ent.pick [0, 1, 2, 3, 6, 4, 5] [7] rfl, ?_⟩
            · exact ⟨by omega, by omega, by omega, by simp; omega, by simp⟩
            · dsimp only; omega
          · refine DO.yd rfl rfl rfl (fun _ _ _ => Yd.loadC 1 rfl rfl rfl) ?_
            refine DJ.two (i := 1) (j := 5) (by kernel_rfl) ?_ ?_
            · refine DO.yd rfl rfl rfl (fun _ _ _ => Yd.loadC 1 rfl rfl rfl) ?_
              refine DJ.one (i := 5) (by kernel_rfl) ?_
              refine DO.call (pickF _ [1, 2]) (pickF _ [0]) rfl rfl rfl (perm_pickF _ [1, 2] [0] rfl) (fun k0 hk0 dk0 k hk dk => pick_ok (hcode.up) (by omega) (by omega)) ?_
              rintro _ _ ⟨x26, rfl, hx26, hy26, rfl⟩
              refine DJ.norm [_, _, _, _] [_, _, _] rfl rfl ?_
              refine DJ.yd 6 rfl (by kernel_rfl) (by kernel_rfl) (by kernel_rfl) rfl rfl (Yd.add rfl rfl (by unfold I64; omega)) ?_
              refine DJ.one (i := 10) (by kernel_rfl) ?_
              refine DO.call (pickF _ [0, 1]) (pickF _ [2]) rfl rfl rfl (perm_pickF _ [0, 1] [2] rfl) (fun k0 hk0 dk0 k hk dk => pick_ok (hcode.up) (by omega) (by omega)) ?_
              rintro _ _ ⟨x31, rfl, hx31, hy31, rfl⟩
              refine DJ.norm [_, _, _, _] [_, _, _] rfl rfl ?_
              refine DJ.yd 11 rfl (by kernel_rfl) (by kernel_rfl) (by kernel_rfl) rfl rfl (Yd.add rfl rfl (by unfold I64; omega)) ?_
              refine DJ.yd 13 rfl (by kernel_rfl) (by kernel_rfl) (by kernel_rfl) rfl rfl (Yd.mvB rfl) ?_
              refine DJ.skip 14 rfl (by kernel_rfl) (by kernel_rfl) (by kernel_rfl) rfl rfl ?_
              refine DJ.skip 15 rfl (by kernel_rfl) (by kernel_rfl) (by kernel_rfl) rfl rfl ?_
              refine DJ.skip 16 rfl (by kernel_rfl) (by kernel_rfl) (by kernel_rfl) rfl rfl ?_
              refine DJ.yd 17 rfl (by kernel_rfl) (by kernel_rfl) (by kernel_rfl) rfl rfl (Yd.pickFB rfl rfl) ?_
              refine DJ.one (i := 19) (by kernel_rfl) ?_
              refine DO.call (pickF _ [0, 1]) (pickF _ [2]) rfl rfl rfl (perm_pickF _ [0, 1] [2] rfl) (fun k0 hk0 dk0 k hk dk => pick_ok (hcode.up) (by omega) (by omega)) ?_
              rintro _ _ ⟨x40, rfl, hx40, hy40, rfl⟩
              refine DJ.norm [_, _, _, _] [_, _, _] rfl rfl ?_
              refine DJ.yd 20 rfl (by kernel_rfl) (by kernel_rfl) (by kernel_rfl) rfl rfl (Yd.build (cs := [_, _, _, _]) rfl) ?_
              refine DJ.one (i := 21) (by kernel_rfl) ?_
              refine DO.op rfl rfl rfl (fun k0 hk0 dk0 => OpR.buildSlice (cs := [_, _, _, _]) rfl rfl) ?_
              rintro _ _ ⟨b46, rfl, rfl⟩
              refine DJ.one (i := 22) (by kernel_rfl) ?_
              refine DO.op rfl rfl rfl (fun k0 hk0 dk0 => OpR.apT (enc := Pane.enc) [⟨_, _, _, _⟩] 1 3 rfl rfl rfl (by first | rfl | omega | (simp; done) | (simp; omega) | (simp [upN_len]; omega) | (simp [idxBy_len]; omega) | (simp [marks_len]; omega) | (simp [upN_len]; done) | (simp [idxBy_len]; done) | (simp [marks_len]; done) | (simp at *; omega)) rfl rfl rfl rfl rfl (by first | rfl | omega | (simp; done) | (simp; omega) | (simp [upN_len]; omega) | (simp [idxBy_len]; omega) | (simp [marks_len]; omega) | (simp [upN_len]; done) | (simp [idxBy_len]; done) | (simp [marks_len]; done) | (simp at *; omega))) ?_
              rintro _ _ ⟨ra43, rc43, rfl, rfl⟩
              refine DJ.norm [_, _, _, _] [_, _, _, _] rfl rfl ?_
              refine DJ.yd 23 rfl (by kernel_rfl) (by kernel_rfl) (by kernel_rfl) rfl rfl (Yd.fieldAddr rfl) ?_
              refine DJ.one (i := 24) (by kernel_rfl) ?_
              refine DO.store (v := .slice _ _ _) (us := [_, _, _]) 0 rfl rfl rfl rfl rfl rfl rfl rfl rfl rfl ?_
              refine DJ.done (by kernel_rfl) ?_
              refine CJ.region ?_
              refine LJ.yd rfl (Yd.mvI rfl) ?_
              refine LJ.yd rfl (Yd.sub rfl rfl (by unfold I64; omega)) ?_
              refine LJ.yd rfl (Yd.asI rfl) ?_
              refine LJ.nil ?_
              refine ⟨(_, _, _, _, _, _), ?_, ⟨rfl, rfl, rfl, rfl, trivial⟩, ⟨rfl, trivial⟩, Ent.pick [0, 1, 2, 3, 6, 4, 5] [7] rfl, ?_⟩
              · exact ⟨by omega, by omega, by omega, by simp; omega, by simp⟩
              · dsimp only; omega
            · refine DO.call (pickF _ [1, 2]) (pickF _ [0]) rfl rfl rfl (perm_pickF _ [1, 2] [0] rfl) (fun k0 hk0 dk0 k hk dk => pick_ok (hcode.up) (by omega) (by omega)) ?_
              rintro _ _ ⟨x26, rfl, hx26, hy26, rfl⟩
              refine DJ.norm [_, _, _, _] [_, _, _] rfl rfl ?_
              refine DJ.yd 6 rfl (by kernel_rfl) (by kernel_rfl) (by kernel_rfl) rfl rfl (Yd.add rfl rfl (by unfold I64; omega)) ?_
              refine DJ.two (i := 1) (j := 10) (by kernel_rfl) ?_ ?_
              · refine DO.yd rfl rfl rfl (fun _ _ _ => Yd.loadC 0 rfl rfl rfl) ?_
                refine DJ.one (i := 10) (by kernel_rfl) ?_
                refine DO.call (pickF _ [0, 1]) (pickF _ [2]) rfl rfl rfl (perm_pickF _ [0, 1] [2] rfl) (fun k0 hk0 dk0 k hk dk => pick_ok (hcode.up) (by omega) (by omega)) ?_
                rintro _ _ ⟨x31, rfl, hx31, hy31, rfl⟩
                refine DJ.norm [_, _, _, _] [_, _, _] rfl rfl ?_
                refine DJ.yd 11 rfl (by kernel_rfl) (by kernel_rfl) (by kernel_rfl) rfl rfl (Yd.add rfl rfl (by unfold I64; omega)) ?_
                refine DJ.yd 13 rfl (by kernel_rfl) (by kernel_rfl) (by kernel_rfl) rfl rfl (Yd.mvB rfl) ?_
                refine DJ.skip 14 rfl (by kernel_rfl) (by kernel_rfl) (by kernel_rfl) rfl rfl ?_
                refine DJ.skip 15 rfl (by kernel_rfl) (by kernel_rfl) (by kernel_rfl) rfl rfl ?_
                refine DJ.skip 16 rfl (by kernel_rfl) (by kernel_rfl) (by kernel_rfl) rfl rfl ?_
                refine DJ.yd 17 rfl (by kernel_rfl) (by kernel_rfl) (by kernel_rfl) rfl rfl (Yd.pickFB rfl rfl) ?_
                refine DJ.one (i := 19) (by kernel_rfl) ?_
                refine DO.call (pickF _ [0, 1]) (pickF _ [2]) rfl rfl rfl (perm_pickF _ [0, 1] [2] rfl) (fun k0 hk0 dk0 k hk dk => pick_ok (hcode.up) (by omega) (by omega)) ?_
                rintro _ _ ⟨x40, rfl, hx40, hy40, rfl⟩
                refine DJ.norm [_, _, _, _] [_, _, _] rfl rfl ?_
                refine DJ.yd 20 rfl (by kernel_rfl) (by kernel_rfl) (by kernel_rfl) rfl rfl (Yd.build (cs := [_, _, _, _]) rfl) ?_
                refine DJ.one (i := 21) (by kernel_rfl) ?_
                refine DO.op rfl rfl rfl (fun k0 hk0 dk0 => OpR.buildSlice (cs := [_, _, _, _]) rfl rfl) ?_
                rintro _ _ ⟨b47, rfl, rfl⟩
                refine DJ.one (i := 22) (by kernel_rfl) ?_
                refine DO.op rfl rfl rfl (fun k0 hk0 dk0 => OpR.apT (enc := Pane.enc) [⟨_, _, _, _⟩] 1 3 rfl rfl rfl (by first | rfl | omega | (simp; done) | (simp; omega) | (simp [upN_len]; omega) | (simp [idxBy_len]; omega) | (simp [marks_len]; omega) | (simp [upN_len]; done) | (simp [idxBy_len]; done) | (simp [marks_len]; done) | (simp at *; omega)) rfl rfl rfl rfl rfl (by first | rfl | omega | (simp; done) | (simp; omega) | (simp [upN_len]; omega) | (simp [idxBy_len]; omega) | (simp [marks_len]; omega) | (simp [upN_len]; done) | (simp [idxBy_len]; done) | (simp [marks_len]; done) | (simp at *; omega))) ?_
                rintro _ _ ⟨ra43, rc43, rfl, rfl⟩
                refine DJ.norm [_, _, _, _] [_, _, _, _] rfl rfl ?_
                refine DJ.yd 23 rfl (by kernel_rfl) (by kernel_rfl) (by kernel_rfl) rfl rfl (Yd.fieldAddr rfl) ?_
                refine DJ.one (i := 24) (by kernel_rfl) ?_
                refine DO.store (v := .slice _ _ _) (us := [_, _, _]) 0 rfl rfl rfl rfl rfl rfl rfl rfl rfl rfl ?_
                refine DJ.done (by kernel_rfl) ?_
                refine CJ.region ?_
                refine LJ.yd rfl (Yd.mvI rfl) ?_
                refine LJ.yd rfl (Yd.sub rfl rfl (by unfold I64; omega)) ?_
                refine LJ.yd rfl (Yd.asI rfl) ?_
                refine LJ.nil ?_
                refine ⟨(_, _, _, _, _, _), ?_, ⟨rfl, rfl, rfl, rfl, trivial⟩, ⟨rfl, trivial⟩, Ent.pick [0, 1, 2, 3, 6, 4, 5] [7] rfl, ?_⟩
                · exact ⟨by omega, by omega, by omega, by simp; omega, by simp⟩
                · dsimp only; omega
              · refine DO.call (pickF _ [0, 1]) (pickF _ [2]) rfl rfl rfl (perm_pickF _ [0, 1] [2] rfl) (fun k0 hk0 dk0 k hk dk => pick_ok (hcode.up) (by omega) (by omega)) ?_
                rintro _ _ ⟨x31, rfl, hx31, hy31, rfl⟩
                refine DJ.norm [_, _, _, _] [_, _, _] rfl rfl ?_
                refine DJ.yd 11 rfl (by kernel_rfl) (by kernel_rfl) (by kernel_rfl) rfl rfl (Yd.add rfl rfl (by unfold I64; omega)) ?_
                refine DJ.yd 13 rfl (by kernel_rfl) (by kernel_rfl) (by kernel_rfl) rfl rfl (Yd.mvB rfl) ?_
                refine DJ.skip 14 rfl (by kernel_rfl) (by kernel_rfl) (by kernel_rfl) rfl rfl ?_
                refine DJ.skip 15 rfl (by kernel_rfl) (by kernel_rfl) (by kernel_rfl) rfl rfl ?_
                refine DJ.skip 16 rfl (by kernel_rfl) (by kernel_rfl) (by kernel_rfl) rfl rfl ?_
                refine DJ.yd 17 rfl (by kernel_rfl) (by kernel_rfl) (by kernel_rfl) rfl rfl (Yd.pickFB rfl rfl) ?_
                refine DJ.two (i := 1) (j := 19) (by kernel_rfl) ?_ ?_
                · refine DO.yd rfl rfl rfl (fun _ _ _ => Yd.loadC 0 rfl rfl rfl) ?_
                  refine DJ.one (i := 19) (by kernel_rfl) ?_
                  refine DO.call (pickF _ [0, 1]) (pickF _ [2]) rfl rfl rfl (perm_pickF _ [0, 1] [2] rfl) (fun k0 hk0 dk0 k hk dk => pick_ok (hcode.up) (by omega) (by omega)) ?_
                  rintro _ _ ⟨x40, rfl, hx40, hy40, rfl⟩
                  refine DJ.norm [_, _, _, _] [_, _, _] rfl rfl ?_
                  refine DJ.yd 20 rfl (by kernel_rfl) (by kernel_rfl) (by kernel_rfl) rfl rfl (Yd.build (cs := [_, _, _, _]) rfl) ?_
                  refine DJ.one (i := 21) (by kernel_rfl) ?_
                  refine DO.op rfl rfl rfl (fun k0 hk0 dk0 => OpR.buildSlice (cs := [_, _, _, _]) rfl rfl) ?_
                  rintro _ _ ⟨b48, rfl, rfl⟩
                  refine DJ.one (i := 22) (by kernel_rfl) ?_
                  refine DO.op rfl rfl rfl (fun k0 hk0 dk0 => OpR.apT (enc := Pane.enc) [⟨_, _, _, _⟩] 1 3 rfl rfl rfl (by first | rfl | omega | (simp; done) | (simp; omega) | (simp [upN_len]; omega) | (simp [idxBy_len]; omega) | (simp [marks_len]; omega) | (simp [upN_len]; done) | (simp [idxBy_len]; done) | (simp [marks_len]; done) | (simp at *; omega)) rfl rfl rfl rfl rfl (by first | rfl | omega | (simp; done) | (simp; omega) | (simp [upN_len]; omega) | (simp [idxBy_len]; omega) | (simp [marks_len]; omega) | (simp [upN_len]; done) | (simp [idxBy_len]; done) | (simp [marks_len]; done) | (simp at *; omega))) ?_
                  rintro _ _ ⟨ra43, rc43, rfl, rfl⟩
                  refine DJ.norm [_, _, _, _] [_, _, _, _] rfl rfl ?_
                  refine DJ.yd 23 rfl (by kernel_rfl) (by kernel_rfl) (by kernel_rfl) rfl rfl (Yd.fieldAddr rfl) ?_
                  refine DJ.one (i := 24) (by kernel_rfl) ?_
                  refine DO.store (v := .slice _ _ _) (us := [_, _, _]) 0 rfl rfl rfl rfl rfl rfl rfl rfl rfl rfl ?_
                  refine DJ.done (by kernel_rfl) ?_
                  refine CJ.region ?_
                  refine LJ.yd rfl (Yd.mvI rfl) ?_
                  refine LJ.yd rfl (Yd.sub rfl rfl (by unfold I64; omega)) ?_
                  refine LJ.yd rfl (Yd.asI rfl) ?_
                  refine LJ.nil ?_
                  refine ⟨(_, _, _, _, _, _), ?_, ⟨rfl, rfl, rfl, rfl, trivial⟩, ⟨rfl, trivial⟩, Ent.pick [0, 1, 2, 3, 6, 4, 5] [7] rfl, ?_⟩
                  · exact ⟨by omega, by omega, by omega, by simp; omega, by simp⟩
                  · dsimp only; omega
                · refine DO.call (pickF _ [0, 1]) (pickF _ [2]) rfl rfl rfl (perm_pickF _ [0, 1] [2] rfl) (fun k0 hk0 dk0 k hk dk => pick_ok (hcode.up) (by omega) (by omega)) ?_
                  rintro _ _ ⟨x40, rfl, hx40, hy40, rfl⟩
                  refine DJ.norm [_, _, _, _] [_, _, _] rfl rfl ?_
                  refine DJ.yd 20 rfl (by kernel_rfl) (by kernel_rfl) (by kernel_rfl) rfl rfl (Yd.build (cs := [_, _, _, _]) rfl) ?_
                  refine DJ.two (i := 1) (j := 21) (by kernel_rfl) ?_ ?_
                  · refine DO.yd rfl rfl rfl (fun _ _ _ => Yd.loadC 0 rfl rfl rfl) ?_
                    refine DJ.one (i := 21) (by kernel_rfl) ?_
                    refine DO.op rfl rfl rfl (fun k0 hk0 dk0 => OpR.buildSlice (cs := [_, _, _, _]) rfl rfl) ?_
                    rintro _ _ ⟨b49, rfl, rfl⟩
                    refine DJ.one (i := 22) (by kernel_rfl) ?_
                    refine DO.op rfl rfl rfl (fun k0 hk0 dk0 => OpR.apT (enc := Pane.enc) [⟨_, _, _, _⟩] 1 3 rfl rfl rfl (by first | rfl | omega | (simp; done) | (simp; omega) | (simp [upN_len]; omega) | (simp [idxBy_len]; omega) | (simp [marks_len]; omega) | (simp [upN_len]; done) | (simp [idxBy_len]; done) | (simp [marks_len]; done) | (simp at *; omega)) rfl rfl rfl rfl rfl (by first | rfl | omega | (simp; done) | (simp; omega) | (simp [upN_len]; omega) | (simp [idxBy_len]; omega) | (simp [marks_len]; omega) | (simp [upN_len]; done) | (simp [idxBy_len]; done) | (simp [marks_len]; done) | (simp at *; omega))) ?_
                    rintro _ _ ⟨ra43, rc43, rfl, rfl⟩
                    refine DJ.norm [_, _, _, _] [_, _, _, _] rfl rfl ?_
                    refine DJ.yd 23 rfl (by kernel_rfl) (by kernel_rfl) (by kernel_rfl) rfl rfl (Yd.fieldAddr rfl) ?_
                    refine DJ.one (i := 24) (by kernel_rfl) ?_
                    refine DO.store (v := .slice _ _ _) (us := [_, _, _]) 0 rfl rfl rfl rfl rfl rfl rfl rfl rfl rfl ?_
                    refine DJ.done (by kernel_rfl) ?_
                    refine CJ.region ?_
                    refine LJ.yd rfl (Yd.mvI rfl) ?_
                    refine LJ.yd rfl (Yd.sub rfl rfl (by unfold I64; omega)) ?_
                    refine LJ.yd rfl (Yd.asI rfl) ?_
                    refine LJ.nil ?_
                    refine ⟨(_, _, _, _, _, _), ?_, ⟨rfl, rfl, rfl, rfl, trivial⟩, ⟨rfl, trivial⟩, Ent.pick [0, 1, 2, 3, 6, 4, 5] [7] rfl, ?_⟩
                    · exact ⟨by omega, by omega, by omega, by simp; omega, by simp⟩
                    · dsimp only; omega
                  · refine DO.op rfl rfl rfl (fun k0 hk0 dk0 => OpR.buildSlice (cs := [_, _, _, _]) rfl rfl) ?_
                    rintro _ _ ⟨b50, rfl, rfl⟩
                    refine DJ.one (i := 1) (by kernel_rfl) ?_
                    refine DO.yd rfl rfl rfl (fun _ _ _ => Yd.loadC 0 rfl rfl rfl) ?_
                    refine DJ.one (i := 22) (by kernel_rfl) ?_
                    refine DO.op rfl rfl rfl (fun k0 hk0 dk0 => OpR.apT (enc := Pane.enc) [⟨_, _, _, _⟩] 1 3 rfl rfl rfl (by first | rfl | omega | (simp; done) | (simp; omega) | (simp [upN_len]; omega) | (simp [idxBy_len]; omega) | (simp [marks_len]; omega) | (simp [upN_len]; done) | (simp [idxBy_len]; done) | (simp [marks_len]; done) | (simp at *; omega)) rfl rfl rfl rfl rfl (by first | rfl | omega | (simp; done) | (simp; omega) | (simp [upN_len]; omega) | (simp [idxBy_len]; omega) | (simp [marks_len]; omega) | (simp [upN_len]; done) | (simp [idxBy_len]; done) | (simp [marks_len]; done) | (simp at *; omega))) ?_
                    rintro _ _ ⟨ra43, rc43, rfl, rfl⟩
                    refine DJ.norm [_, _, _, _] [_, _, _, _] rfl rfl ?_
                    refine DJ.yd 23 rfl (by kernel_rfl) (by kernel_rfl) (by kernel_rfl) rfl rfl (Yd.fieldAddr rfl) ?_
                    refine DJ.one (i := 24) (by kernel_rfl) ?_
                    refine DO.store (v := .slice _ _ _) (us := [_, _, _]) 0 rfl rfl rfl rfl rfl rfl rfl rfl rfl rfl ?_
                    refine DJ.done (by kernel_rfl) ?_
                    refine CJ.region ?_
                    refine LJ.yd rfl (Yd.mvI rfl) ?_
                    refine LJ.yd rfl (Yd.sub rfl rfl (by unfold I64; omega)) ?_
                    refine LJ.yd rfl (Yd.asI rfl) ?_
                    refine LJ.nil ?_
                    refine ⟨(_, _, _, _, _, _), ?_, ⟨rfl, rfl, rfl, rfl, trivial⟩, ⟨rfl, trivial⟩, Ent.pick [0, 1, 2, 3, 6, 4, 5] [7] rfl, ?_⟩
                    · exact ⟨by omega, by omega, by omega, by simp; omega, by simp⟩
                    · dsimp only; omega
    · refine LJ.nil ?_
      refine CJ.condF rfl ?_
      refine CJ.exit ?_
      refine CJ.seq ?_
      refine CJ.region ?_
      refine LJ.yd rfl (Yd.loadG (us := [_, _, _]) 5 rfl rfl rfl rfl) ?_
      refine LJ.store (v := .agg #[_, _, _]) (us := [_, _, _]) 0 rfl rfl rfl rfl rfl rfl rfl rfl ?_
      refine LJ.nil ?_
      refine CJ.ret ?_
      exact Fin.R [_, _] (Res.one (ResV.cell (us := [_, _, _]) 0 rfl rfl rfl rfl)) ⟨_, _, _, F, _, _, _, rfl, rfl, rfl, by omega, by omega, by omega, by omega, by omega⟩ (Ent.pick [4, 6] [0, 1, 2, 3, 5] rfl)
end Go.Proofs.Ytkojheinklgdeaa
