/-
  Works with plans, drawn: contracts.
-/
import Derived.Test.YtfnnhekbgjofoaaG2
namespace Go.Proofs.Ytfnnhekbgjofoaa
open Go
set_option maxRecDepth 20000
set_option maxHeartbeats 4000000

def WorkPlanR (rb : Nat) (a : Option Addr) (n c : Nat) (p : Int) (v : Value) (fs : List HProp) : Prop :=
  ∃ (W H : Int) (ka : Option Addr) (km kc : Nat) (o e i : Int) (t : Bool) (x : Option Addr) (m l : Nat) (b : BT) (q : Int) (ps : List Pane), v = .tuple #[.agg #[vI W, vI H, .slice ka km kc], .agg #[vI o, vI e, vI i, .bool t, .slice x m l]] ∧
    fs = [Rd rb a n c q, fun h => RdPanes h (.slice ka km kc) ps, fun h => RdT h [vI o, vI e, vI i, .bool t, .slice x m l] b] ∧ p ≤ q ∧ q ≤ p + 200 ∧ 1 ≤ W ∧ W ≤ 30 ∧ 1 ≤ H ∧ H ≤ 30 ∧ ps.length ≤ 24 ∧ (∀ z ∈ ps, z.wf) ∧ b.sz ≤ 125
theorem workPlan_ok {A : Amb} {rb n c : Nat} {a : Option Addr} {p : Int} (hcode : RdCode A.h a n) (hp0 : 0 ≤ p) (hp1 : p ≤ 100000) :
    Ctr Try.prog 81 #[.pointer (some ⟨rb, 0, none⟩)] A [Rd rb a n c p] (WorkPlanR rb a n c p) := by
  have hg5 : gF 5 = 124 := by simp [gF]
  refine Ctr.body (args := [_]) Try.func81 rfl Try.ntmps81 Try.results81 (by simp) ?_
  refine CJ.seq ?_
  refine CJ.region ?_
  refine LJ.alloc ([_, _, _] : List Value) rfl rfl (fun b1 => ?_)
  refine LJ.alloc ([_, _, _, _, _] : List Value) rfl rfl (fun b2 => ?_)
  refine LJ.nil ?_
  refine CJ.seq ?_
  refine CJ.region ?_
  refine LJ.yd rfl (Yd.mvP rfl) ?_
  refine LJ.op rfl (OpR.buildSlice (cs := [_, _, _, _, _, _]) rfl rfl) ?_
  rintro _ _ ⟨b3, rfl, rfl⟩
  refine LJ.call (pickF _ [1, 2, 3]) (pickF _ [0]) rfl (perm_pickF _ [1, 2, 3] [0] rfl) (fun k hk dk => one_ok (l := [12, 20, 8, 30, 1, 5]) (hcode.up) (LitAt.of (l := [12, 20, 8, 30, 1, 5]) hk dk 2 rfl) (by simp) (by omega) (by omega)) ?_
  rintro _ _ ⟨x8, rfl, hx8, rfl⟩
  simp only [List.mem_cons, List.not_mem_nil, or_false] at hx8
  refine LJ.norm [_, _, _, _] rfl ?_
  refine LJ.yd rfl (Yd.mvP rfl) ?_
  refine LJ.op rfl (OpR.buildSlice (cs := [_, _, _, _, _, _]) rfl rfl) ?_
  rintro _ _ ⟨b4, rfl, rfl⟩
  refine LJ.call (pickF _ [0, 1, 2, 4]) (pickF _ [3]) rfl (perm_pickF _ [0, 1, 2, 4] [3] rfl) (fun k hk dk => one_ok (l := [10, 16, 6, 20, 1, 9]) (hcode.up) (LitAt.of (l := [10, 16, 6, 20, 1, 9]) hk dk 3 rfl) (by simp) (by omega) (by omega)) ?_
  rintro _ _ ⟨x11, rfl, hx11, rfl⟩
  simp only [List.mem_cons, List.not_mem_nil, or_false] at hx11
  refine LJ.norm [_, _, _, _, _] rfl ?_
  refine LJ.yd rfl (Yd.build (cs := [_, _, _]) rfl) ?_
  refine LJ.alloc ([_, _, _] : List Value) rfl rfl (fun b5 => ?_)
  refine LJ.store (v := .agg #[_, _, _]) (us := [_, _, _]) 5 rfl rfl rfl rfl rfl rfl rfl rfl ?_
  refine LJ.nil ?_
  refine CJ.seqH [2, 3, 4] (Nat × Int × Int × Int × Bool × Option Addr × Nat × Nat × BT × Int × List Pane × Option Addr × Nat) (fun ⟨bb, o, e, i, t, x, m, l, b, q, ps, ka, kc⟩ => p ≤ q ∧ q ≤ p + 200 ∧ ps.length ≤ 24 ∧ (∀ z ∈ ps, z.wf) ∧ b.sz ≤ 125) (fun ⟨bb, o, e, i, t, x, m, l, b, q, ps, ka, kc⟩ => [(5, .pointer (some ⟨bb, 0, none⟩))]) (fun ⟨bb, o, e, i, t, x, m, l, b, q, ps, ka, kc⟩ => [Cel b1 63 [vI 0, vI 0, .slice none 0 0], Cel b2 25 [vI 0, vI 0, vI 0, .bool false, .slice none 0 0], Rd rb a n c q, Cel b5 63 [vI x8, vI x11, .slice ka (ps.map Pane.enc).length kc], Row 101 4 ka kc (ps.map Pane.enc), Cel bb 25 [vI o, vI e, vI i, .bool t, .slice x m l], fun h => RdT h [vI o, vI e, vI i, .bool t, .slice x m l] b]) ?_ ?_
  · refine CJ.addRow 101 4 ?_
    refine CJ.regionD [0, 1, 2, 3] [4, 5, 6] (by kernel_rfl) rfl ?_
    refine DJ.norm [_, _, _, _] [_, _, _] rfl rfl ?_
    refine DJ.yd 0 rfl (by kernel_rfl) (by kernel_rfl) (by kernel_rfl) rfl rfl (Yd.mvP rfl) ?_
    refine DJ.yd 1 rfl (by kernel_rfl) (by kernel_rfl) (by kernel_rfl) rfl rfl (Yd.fieldAddr rfl) ?_
    refine DJ.yd 3 rfl (by kernel_rfl) (by kernel_rfl) (by kernel_rfl) rfl rfl (Yd.fieldAddr rfl) ?_
    refine DJ.yd 5 rfl (by kernel_rfl) (by kernel_rfl) (by kernel_rfl) rfl rfl (Yd.mvP rfl) ?_
    refine DJ.four (i := 2) (j := 4) (m := 6) (o := 9) (by kernel_rfl) ?_ ?_ ?_ ?_
    · refine DO.yd rfl rfl rfl (fun _ _ _ => Yd.loadC 1 rfl rfl rfl) ?_
      refine DJ.three (i := 4) (j := 6) (m := 9) (by kernel_rfl) ?_ ?_ ?_
      · refine DO.yd rfl rfl rfl (fun _ _ _ => Yd.loadC 1 rfl rfl rfl) ?_
        refine DJ.two (i := 6) (j := 9) (by kernel_rfl) ?_ ?_
        · refine DO.op rfl rfl rfl (fun k0 hk0 dk0 => OpR.buildSlice (cs := [_, _, _, _, _]) rfl rfl) ?_
          rintro _ _ ⟨b6, rfl, rfl⟩
          refine DJ.two (i := 7) (j := 9) (by kernel_rfl) ?_ ?_
          · refine DO.call (pickF _ [1, 2, 3]) (pickF _ [0]) rfl rfl rfl (perm_pickF _ [1, 2, 3] [0] rfl) (fun k0 hk0 dk0 k hk dk => one_ok (l := [3, 2, 4, 1, 0]) (hcode.up) (LitAt.of (l := [3, 2, 4, 1, 0]) hk dk 2 rfl) (by simp) (by omega) (by omega)) ?_
            rintro _ _ ⟨x20, rfl, hx20, rfl⟩
            simp only [List.mem_cons, List.not_mem_nil, or_false] at hx20
            refine DJ.norm [_, _, _, _] [_, _, _, _] rfl rfl ?_
            refine DJ.two (i := 8) (j := 9) (by kernel_rfl) ?_ ?_
            · refine DO.call (pickF _ [2]) (pickF _ [3, 0, 1]) rfl rfl rfl (perm_pickF _ [2] [3, 0, 1] rfl) (fun k0 hk0 dk0 k hk dk => grow_ok 5 _ _ _ _ _ _ _ _ _ [] _ _ _ _ _ hcode.up (by omega) (by omega) (by simp) (by simp) (by omega) (by omega) (by omega) (by omega) (by omega) (by omega) (by omega)) ?_
              rintro _ _ ⟨oK0, aK0, pK0, tK0, xK0, mK0, cK0, bK0, qK0, psK0, kaK0, kcK0, rfl, rfl, hqK0, hrK0, hlK0, hwK0, hzK0⟩
              refine DJ.norm [_, _, _, _] [_, _, _, _, _] rfl rfl ?_
              refine DJ.one (i := 9) (by kernel_rfl) ?_
              refine DO.alloc ([_, _, _, _, _] : List Value) rfl rfl rfl rfl (fun b7 => ?_)
              refine DJ.one (i := 10) (by kernel_rfl) ?_
              refine DO.store (v := .agg #[_, _, _, _, _]) (us := [_, _, _, _, _]) 5 rfl rfl rfl rfl rfl rfl rfl rfl rfl rfl ?_
              refine DJ.done (by kernel_rfl) ?_
              refine ⟨(b7, oK0, aK0, pK0, tK0, xK0, mK0, cK0, bK0, qK0, psK0, kaK0, kcK0), ?_, ?_, ?_, Ent.pick [0, 1, 5, 6, 7, 9, 8] [2, 3, 4] rfl⟩
              · exact ⟨by omega, by omega, hlK0, hwK0, by omega⟩
              · exact ⟨rfl, rfl, rfl, trivial⟩
              · exact ⟨rfl, trivial⟩
            · refine DO.alloc ([_, _, _, _, _] : List Value) rfl rfl rfl rfl (fun b8 => ?_)
              refine DJ.one (i := 8) (by kernel_rfl) ?_
              refine DO.call (pickF _ [2, 4]) (pickF _ [3, 0, 1]) rfl rfl rfl (perm_pickF _ [2, 4] [3, 0, 1] rfl) (fun k0 hk0 dk0 k hk dk => grow_ok 5 _ _ _ _ _ _ _ _ _ [] _ _ _ _ _ hcode.up (by omega) (by omega) (by simp) (by simp) (by omega) (by omega) (by omega) (by omega) (by omega) (by omega) (by omega)) ?_
              rintro _ _ ⟨oK0, aK0, pK0, tK0, xK0, mK0, cK0, bK0, qK0, psK0, kaK0, kcK0, rfl, rfl, hqK0, hrK0, hlK0, hwK0, hzK0⟩
              refine DJ.norm [_, _, _, _] [_, _, _, _, _, _] rfl rfl ?_
              refine DJ.one (i := 10) (by kernel_rfl) ?_
              refine DO.store (v := .agg #[_, _, _, _, _]) (us := [_, _, _, _, _]) 1 rfl rfl rfl rfl rfl rfl rfl rfl rfl rfl ?_
              refine DJ.done (by kernel_rfl) ?_
              refine ⟨(b8, oK0, aK0, pK0, tK0, xK0, mK0, cK0, bK0, qK0, psK0, kaK0, kcK0), ?_, ?_, ?_, Ent.pick [0, 1, 6, 7, 8, 5, 9] [2, 3, 4] rfl⟩
              · exact ⟨by omega, by omega, hlK0, hwK0, by omega⟩
              · exact ⟨rfl, rfl, rfl, trivial⟩
              · exact ⟨rfl, trivial⟩
          · refine DO.alloc ([_, _, _, _, _] : List Value) rfl rfl rfl rfl (fun b9 => ?_)
            refine DJ.one (i := 7) (by kernel_rfl) ?_
            refine DO.call (pickF _ [1, 2, 3, 4]) (pickF _ [0]) rfl rfl rfl (perm_pickF _ [1, 2, 3, 4] [0] rfl) (fun k0 hk0 dk0 k hk dk => one_ok (l := [3, 2, 4, 1, 0]) (hcode.up) (LitAt.of (l := [3, 2, 4, 1, 0]) hk dk 2 rfl) (by simp) (by omega) (by omega)) ?_
            rintro _ _ ⟨x20, rfl, hx20, rfl⟩
            simp only [List.mem_cons, List.not_mem_nil, or_false] at hx20
            refine DJ.norm [_, _, _, _] [_, _, _, _, _] rfl rfl ?_
            refine DJ.one (i := 8) (by kernel_rfl) ?_
            refine DO.call (pickF _ [2, 3]) (pickF _ [4, 0, 1]) rfl rfl rfl (perm_pickF _ [2, 3] [4, 0, 1] rfl) (fun k0 hk0 dk0 k hk dk => grow_ok 5 _ _ _ _ _ _ _ _ _ [] _ _ _ _ _ hcode.up (by omega) (by omega) (by simp) (by simp) (by omega) (by omega) (by omega) (by omega) (by omega) (by omega) (by omega)) ?_
            rintro _ _ ⟨oK0, aK0, pK0, tK0, xK0, mK0, cK0, bK0, qK0, psK0, kaK0, kcK0, rfl, rfl, hqK0, hrK0, hlK0, hwK0, hzK0⟩
            refine DJ.norm [_, _, _, _] [_, _, _, _, _, _] rfl rfl ?_
            refine DJ.one (i := 10) (by kernel_rfl) ?_
            refine DO.store (v := .agg #[_, _, _, _, _]) (us := [_, _, _, _, _]) 1 rfl rfl rfl rfl rfl rfl rfl rfl rfl rfl ?_
            refine DJ.done (by kernel_rfl) ?_
            refine ⟨(b9, oK0, aK0, pK0, tK0, xK0, mK0, cK0, bK0, qK0, psK0, kaK0, kcK0), ?_, ?_, ?_, Ent.pick [0, 1, 6, 7, 8, 5, 9] [2, 3, 4] rfl⟩
            · exact ⟨by omega, by omega, hlK0, hwK0, by omega⟩
            · exact ⟨rfl, rfl, rfl, trivial⟩
            · exact ⟨rfl, trivial⟩
        · refine DO.alloc ([_, _, _, _, _] : List Value) rfl rfl rfl rfl (fun b10 => ?_)
          refine DJ.one (i := 6) (by kernel_rfl) ?_
          refine DO.op rfl rfl rfl (fun k0 hk0 dk0 => OpR.buildSlice (cs := [_, _, _, _, _]) rfl rfl) ?_
          rintro _ _ ⟨b11, rfl, rfl⟩
          refine DJ.one (i := 7) (by kernel_rfl) ?_
          refine DO.call (pickF _ [1, 2, 3, 4]) (pickF _ [0]) rfl rfl rfl (perm_pickF _ [1, 2, 3, 4] [0] rfl) (fun k0 hk0 dk0 k hk dk => one_ok (l := [3, 2, 4, 1, 0]) (hcode.up) (LitAt.of (l := [3, 2, 4, 1, 0]) hk dk 3 rfl) (by simp) (by omega) (by omega)) ?_
          rintro _ _ ⟨x20, rfl, hx20, rfl⟩
          simp only [List.mem_cons, List.not_mem_nil, or_false] at hx20
          refine DJ.norm [_, _, _, _] [_, _, _, _, _] rfl rfl ?_
          refine DJ.one (i := 8) (by kernel_rfl) ?_
          refine DO.call (pickF _ [2, 3]) (pickF _ [4, 0, 1]) rfl rfl rfl (perm_pickF _ [2, 3] [4, 0, 1] rfl) (fun k0 hk0 dk0 k hk dk => grow_ok 5 _ _ _ _ _ _ _ _ _ [] _ _ _ _ _ hcode.up (by omega) (by omega) (by simp) (by simp) (by omega) (by omega) (by omega) (by omega) (by omega) (by omega) (by omega)) ?_
          rintro _ _ ⟨oK0, aK0, pK0, tK0, xK0, mK0, cK0, bK0, qK0, psK0, kaK0, kcK0, rfl, rfl, hqK0, hrK0, hlK0, hwK0, hzK0⟩
          refine DJ.norm [_, _, _, _] [_, _, _, _, _, _] rfl rfl ?_
          refine DJ.one (i := 10) (by kernel_rfl) ?_
          refine DO.store (v := .agg #[_, _, _, _, _]) (us := [_, _, _, _, _]) 0 rfl rfl rfl rfl rfl rfl rfl rfl rfl rfl ?_
          refine DJ.done (by kernel_rfl) ?_
          refine ⟨(b10, oK0, aK0, pK0, tK0, xK0, mK0, cK0, bK0, qK0, psK0, kaK0, kcK0), ?_, ?_, ?_, Ent.pick [0, 1, 6, 7, 8, 4, 9] [2, 3, 5] rfl⟩
          · exact ⟨by omega, by omega, hlK0, hwK0, by omega⟩
          · exact ⟨rfl, rfl, rfl, trivial⟩
          · exact ⟨rfl, trivial⟩
      · refine DO.op rfl rfl rfl (fun k0 hk0 dk0 => OpR.buildSlice (cs := [_, _, _, _, _]) rfl rfl) ?_
        rintro _ _ ⟨b12, rfl, rfl⟩
        refine DJ.three (i := 4) (j := 7) (m := 9) (by kernel_rfl) ?_ ?_ ?_
        · refine DO.yd rfl rfl rfl (fun _ _ _ => Yd.loadC 1 rfl rfl rfl) ?_
          refine DJ.two (i := 7) (j := 9) (by kernel_rfl) ?_ ?_
          · refine DO.call (pickF _ [1, 2, 3]) (pickF _ [0]) rfl rfl rfl (perm_pickF _ [1, 2, 3] [0] rfl) (fun k0 hk0 dk0 k hk dk => one_ok (l := [3, 2, 4, 1, 0]) (hcode.up) (LitAt.of (l := [3, 2, 4, 1, 0]) hk dk 2 rfl) (by simp) (by omega) (by omega)) ?_
            rintro _ _ ⟨x20, rfl, hx20, rfl⟩
            simp only [List.mem_cons, List.not_mem_nil, or_false] at hx20
            refine DJ.norm [_, _, _, _] [_, _, _, _] rfl rfl ?_
            refine DJ.two (i := 8) (j := 9) (by kernel_rfl) ?_ ?_
            · refine DO.call (pickF _ [2]) (pickF _ [3, 0, 1]) rfl rfl rfl (perm_pickF _ [2] [3, 0, 1] rfl) (fun k0 hk0 dk0 k hk dk => grow_ok 5 _ _ _ _ _ _ _ _ _ [] _ _ _ _ _ hcode.up (by omega) (by omega) (by simp) (by simp) (by omega) (by omega) (by omega) (by omega) (by omega) (by omega) (by omega)) ?_
              rintro _ _ ⟨oK0, aK0, pK0, tK0, xK0, mK0, cK0, bK0, qK0, psK0, kaK0, kcK0, rfl, rfl, hqK0, hrK0, hlK0, hwK0, hzK0⟩
              refine DJ.norm [_, _, _, _] [_, _, _, _, _] rfl rfl ?_
              refine DJ.one (i := 9) (by kernel_rfl) ?_
              refine DO.alloc ([_, _, _, _, _] : List Value) rfl rfl rfl rfl (fun b13 => ?_)
              refine DJ.one (i := 10) (by kernel_rfl) ?_
              refine DO.store (v := .agg #[_, _, _, _, _]) (us := [_, _, _, _, _]) 5 rfl rfl rfl rfl rfl rfl rfl rfl rfl rfl ?_
              refine DJ.done (by kernel_rfl) ?_
              refine ⟨(b13, oK0, aK0, pK0, tK0, xK0, mK0, cK0, bK0, qK0, psK0, kaK0, kcK0), ?_, ?_, ?_, Ent.pick [0, 1, 5, 6, 7, 9, 8] [2, 3, 4] rfl⟩
              · exact ⟨by omega, by omega, hlK0, hwK0, by omega⟩
              · exact ⟨rfl, rfl, rfl, trivial⟩
              · exact ⟨rfl, trivial⟩
            · refine DO.alloc ([_, _, _, _, _] : List Value) rfl rfl rfl rfl (fun b14 => ?_)
              refine DJ.one (i := 8) (by kernel_rfl) ?_
              refine DO.call (pickF _ [2, 4]) (pickF _ [3, 0, 1]) rfl rfl rfl (perm_pickF _ [2, 4] [3, 0, 1] rfl) (fun k0 hk0 dk0 k hk dk => grow_ok 5 _ _ _ _ _ _ _ _ _ [] _ _ _ _ _ hcode.up (by omega) (by omega) (by simp) (by simp) (by omega) (by omega) (by omega) (by omega) (by omega) (by omega) (by omega)) ?_
              rintro _ _ ⟨oK0, aK0, pK0, tK0, xK0, mK0, cK0, bK0, qK0, psK0, kaK0, kcK0, rfl, rfl, hqK0, hrK0, hlK0, hwK0, hzK0⟩
              refine DJ.norm [_, _, _, _] [_, _, _, _, _, _] rfl rfl ?_
              refine DJ.one (i := 10) (by kernel_rfl) ?_
              refine DO.store (v := .agg #[_, _, _, _, _]) (us := [_, _, _, _, _]) 1 rfl rfl rfl rfl rfl rfl rfl rfl rfl rfl ?_
              refine DJ.done (by kernel_rfl) ?_
              refine ⟨(b14, oK0, aK0, pK0, tK0, xK0, mK0, cK0, bK0, qK0, psK0, kaK0, kcK0), ?_, ?_, ?_, Ent.pick [0, 1, 6, 7, 8, 5, 9] [2, 3, 4] rfl⟩
              · exact ⟨by omega, by omega, hlK0, hwK0, by omega⟩
              · exact ⟨rfl, rfl, rfl, trivial⟩
              · exact ⟨rfl, trivial⟩
          · refine DO.alloc ([_, _, _, _, _] : List Value) rfl rfl rfl rfl (fun b15 => ?_)
            refine DJ.one (i := 7) (by kernel_rfl) ?_
            refine DO.call (pickF _ [1, 2, 3, 4]) (pickF _ [0]) rfl rfl rfl (perm_pickF _ [1, 2, 3, 4] [0] rfl) (fun k0 hk0 dk0 k hk dk => one_ok (l := [3, 2, 4, 1, 0]) (hcode.up) (LitAt.of (l := [3, 2, 4, 1, 0]) hk dk 2 rfl) (by simp) (by omega) (by omega)) ?_
            rintro _ _ ⟨x20, rfl, hx20, rfl⟩
            simp only [List.mem_cons, List.not_mem_nil, or_false] at hx20
            refine DJ.norm [_, _, _, _] [_, _, _, _, _] rfl rfl ?_
            refine DJ.one (i := 8) (by kernel_rfl) ?_
            refine DO.call (pickF _ [2, 3]) (pickF _ [4, 0, 1]) rfl rfl rfl (perm_pickF _ [2, 3] [4, 0, 1] rfl) (fun k0 hk0 dk0 k hk dk => grow_ok 5 _ _ _ _ _ _ _ _ _ [] _ _ _ _ _ hcode.up (by omega) (by omega) (by simp) (by simp) (by omega) (by omega) (by omega) (by omega) (by omega) (by omega) (by omega)) ?_
            rintro _ _ ⟨oK0, aK0, pK0, tK0, xK0, mK0, cK0, bK0, qK0, psK0, kaK0, kcK0, rfl, rfl, hqK0, hrK0, hlK0, hwK0, hzK0⟩
            refine DJ.norm [_, _, _, _] [_, _, _, _, _, _] rfl rfl ?_
            refine DJ.one (i := 10) (by kernel_rfl) ?_
            refine DO.store (v := .agg #[_, _, _, _, _]) (us := [_, _, _, _, _]) 1 rfl rfl rfl rfl rfl rfl rfl rfl rfl rfl ?_
            refine DJ.done (by kernel_rfl) ?_
            refine ⟨(b15, oK0, aK0, pK0, tK0, xK0, mK0, cK0, bK0, qK0, psK0, kaK0, kcK0), ?_, ?_, ?_, Ent.pick [0, 1, 6, 7, 8, 5, 9] [2, 3, 4] rfl⟩
            · exact ⟨by omega, by omega, hlK0, hwK0, by omega⟩
            · exact ⟨rfl, rfl, rfl, trivial⟩
            · exact ⟨rfl, trivial⟩
        · refine DO.call (pickF _ [1, 2, 3]) (pickF _ [0]) rfl rfl rfl (perm_pickF _ [1, 2, 3] [0] rfl) (fun k0 hk0 dk0 k hk dk => one_ok (l := [3, 2, 4, 1, 0]) (hcode.up) (LitAt.of (l := [3, 2, 4, 1, 0]) hk dk 2 rfl) (by simp) (by omega) (by omega)) ?_
          rintro _ _ ⟨x20, rfl, hx20, rfl⟩
          simp only [List.mem_cons, List.not_mem_nil, or_false] at hx20
          refine DJ.norm [_, _, _, _] [_, _, _, _] rfl rfl ?_
          refine DJ.two (i := 4) (j := 9) (by kernel_rfl) ?_ ?_
          · refine DO.yd rfl rfl rfl (fun _ _ _ => Yd.loadC 0 rfl rfl rfl) ?_
            refine DJ.two (i := 8) (j := 9) (by kernel_rfl) ?_ ?_
            · refine DO.call (pickF _ [2]) (pickF _ [3, 0, 1]) rfl rfl rfl (perm_pickF _ [2] [3, 0, 1] rfl) (fun k0 hk0 dk0 k hk dk => grow_ok 5 _ _ _ _ _ _ _ _ _ [] _ _ _ _ _ hcode.up (by omega) (by omega) (by simp) (by simp) (by omega) (by omega) (by omega) (by omega) (by omega) (by omega) (by omega)) ?_
              rintro _ _ ⟨oK0, aK0, pK0, tK0, xK0, mK0, cK0, bK0, qK0, psK0, kaK0, kcK0, rfl, rfl, hqK0, hrK0, hlK0, hwK0, hzK0⟩
              refine DJ.norm [_, _, _, _] [_, _, _, _, _] rfl rfl ?_
              refine DJ.one (i := 9) (by kernel_rfl) ?_
              refine DO.alloc ([_, _, _, _, _] : List Value) rfl rfl rfl rfl (fun b16 => ?_)
              refine DJ.one (i := 10) (by kernel_rfl) ?_
              refine DO.store (v := .agg #[_, _, _, _, _]) (us := [_, _, _, _, _]) 5 rfl rfl rfl rfl rfl rfl rfl rfl rfl rfl ?_
              refine DJ.done (by kernel_rfl) ?_
              refine ⟨(b16, oK0, aK0, pK0, tK0, xK0, mK0, cK0, bK0, qK0, psK0, kaK0, kcK0), ?_, ?_, ?_, Ent.pick [0, 1, 5, 6, 7, 9, 8] [2, 3, 4] rfl⟩
              · exact ⟨by omega, by omega, hlK0, hwK0, by omega⟩
              · exact ⟨rfl, rfl, rfl, trivial⟩
              · exact ⟨rfl, trivial⟩
            · refine DO.alloc ([_, _, _, _, _] : List Value) rfl rfl rfl rfl (fun b17 => ?_)
              refine DJ.one (i := 8) (by kernel_rfl) ?_
              refine DO.call (pickF _ [2, 4]) (pickF _ [3, 0, 1]) rfl rfl rfl (perm_pickF _ [2, 4] [3, 0, 1] rfl) (fun k0 hk0 dk0 k hk dk => grow_ok 5 _ _ _ _ _ _ _ _ _ [] _ _ _ _ _ hcode.up (by omega) (by omega) (by simp) (by simp) (by omega) (by omega) (by omega) (by omega) (by omega) (by omega) (by omega)) ?_
              rintro _ _ ⟨oK0, aK0, pK0, tK0, xK0, mK0, cK0, bK0, qK0, psK0, kaK0, kcK0, rfl, rfl, hqK0, hrK0, hlK0, hwK0, hzK0⟩
              refine DJ.norm [_, _, _, _] [_, _, _, _, _, _] rfl rfl ?_
              refine DJ.one (i := 10) (by kernel_rfl) ?_
              refine DO.store (v := .agg #[_, _, _, _, _]) (us := [_, _, _, _, _]) 1 rfl rfl rfl rfl rfl rfl rfl rfl rfl rfl ?_
              refine DJ.done (by kernel_rfl) ?_
              refine ⟨(b17, oK0, aK0, pK0, tK0, xK0, mK0, cK0, bK0, qK0, psK0, kaK0, kcK0), ?_, ?_, ?_, Ent.pick [0, 1, 6, 7, 8, 5, 9] [2, 3, 4] rfl⟩
              · exact ⟨by omega, by omega, hlK0, hwK0, by omega⟩
              · exact ⟨rfl, rfl, rfl, trivial⟩
              · exact ⟨rfl, trivial⟩
          · refine DO.alloc ([_, _, _, _, _] : List Value) rfl rfl rfl rfl (fun b18 => ?_)
            refine DJ.one (i := 4) (by kernel_rfl) ?_
            refine DO.yd rfl rfl rfl (fun _ _ _ => Yd.loadC 0 rfl rfl rfl) ?_
            refine DJ.one (i := 8) (by kernel_rfl) ?_
            refine DO.call (pickF _ [2, 4]) (pickF _ [3, 0, 1]) rfl rfl rfl (perm_pickF _ [2, 4] [3, 0, 1] rfl) (fun k0 hk0 dk0 k hk dk => grow_ok 5 _ _ _ _ _ _ _ _ _ [] _ _ _ _ _ hcode.up (by omega) (by omega) (by simp) (by simp) (by omega) (by omega) (by omega) (by omega) (by omega) (by omega) (by omega)) ?_
            rintro _ _ ⟨oK0, aK0, pK0, tK0, xK0, mK0, cK0, bK0, qK0, psK0, kaK0, kcK0, rfl, rfl, hqK0, hrK0, hlK0, hwK0, hzK0⟩
            refine DJ.norm [_, _, _, _] [_, _, _, _, _, _] rfl rfl ?_
            refine DJ.one (i := 10) (by kernel_rfl) ?_
            refine DO.store (v := .agg #[_, _, _, _, _]) (us := [_, _, _, _, _]) 1 rfl rfl rfl rfl rfl rfl rfl rfl rfl rfl ?_
            refine DJ.done (by kernel_rfl) ?_
            refine ⟨(b18, oK0, aK0, pK0, tK0, xK0, mK0, cK0, bK0, qK0, psK0, kaK0, kcK0), ?_, ?_, ?_, Ent.pick [0, 1, 6, 7, 8, 5, 9] [2, 3, 4] rfl⟩
            · exact ⟨by omega, by omega, hlK0, hwK0, by omega⟩
            · exact ⟨rfl, rfl, rfl, trivial⟩
            · exact ⟨rfl, trivial⟩
        · refine DO.alloc ([_, _, _, _, _] : List Value) rfl rfl rfl rfl (fun b19 => ?_)
          refine DJ.two (i := 4) (j := 7) (by kernel_rfl) ?_ ?_
          · refine DO.yd rfl rfl rfl (fun _ _ _ => Yd.loadC 1 rfl rfl rfl) ?_
            refine DJ.one (i := 7) (by kernel_rfl) ?_
            refine DO.call (pickF _ [1, 2, 3, 4]) (pickF _ [0]) rfl rfl rfl (perm_pickF _ [1, 2, 3, 4] [0] rfl) (fun k0 hk0 dk0 k hk dk => one_ok (l := [3, 2, 4, 1, 0]) (hcode.up) (LitAt.of (l := [3, 2, 4, 1, 0]) hk dk 2 rfl) (by simp) (by omega) (by omega)) ?_
            rintro _ _ ⟨x20, rfl, hx20, rfl⟩
            simp only [List.mem_cons, List.not_mem_nil, or_false] at hx20
            refine DJ.norm [_, _, _, _] [_, _, _, _, _] rfl rfl ?_
            refine DJ.one (i := 8) (by kernel_rfl) ?_
            refine DO.call (pickF _ [2, 3]) (pickF _ [4, 0, 1]) rfl rfl rfl (perm_pickF _ [2, 3] [4, 0, 1] rfl) (fun k0 hk0 dk0 k hk dk => grow_ok 5 _ _ _ _ _ _ _ _ _ [] _ _ _ _ _ hcode.up (by omega) (by omega) (by simp) (by simp) (by omega) (by omega) (by omega) (by omega) (by omega) (by omega) (by omega)) ?_
            rintro _ _ ⟨oK0, aK0, pK0, tK0, xK0, mK0, cK0, bK0, qK0, psK0, kaK0, kcK0, rfl, rfl, hqK0, hrK0, hlK0, hwK0, hzK0⟩
            refine DJ.norm [_, _, _, _] [_, _, _, _, _, _] rfl rfl ?_
            refine DJ.one (i := 10) (by kernel_rfl) ?_
            refine DO.store (v := .agg #[_, _, _, _, _]) (us := [_, _, _, _, _]) 1 rfl rfl rfl rfl rfl rfl rfl rfl rfl rfl ?_
            refine DJ.done (by kernel_rfl) ?_
            refine ⟨(b19, oK0, aK0, pK0, tK0, xK0, mK0, cK0, bK0, qK0, psK0, kaK0, kcK0), ?_, ?_, ?_, Ent.pick [0, 1, 6, 7, 8, 5, 9] [2, 3, 4] rfl⟩
            · exact ⟨by omega, by omega, hlK0, hwK0, by omega⟩
            · exact ⟨rfl, rfl, rfl, trivial⟩
            · exact ⟨rfl, trivial⟩
          · refine DO.call (pickF _ [1, 2, 3, 4]) (pickF _ [0]) rfl rfl rfl (perm_pickF _ [1, 2, 3, 4] [0] rfl) (fun k0 hk0 dk0 k hk dk => one_ok (l := [3, 2, 4, 1, 0]) (hcode.up) (LitAt.of (l := [3, 2, 4, 1, 0]) hk dk 2 rfl) (by simp) (by omega) (by omega)) ?_
            rintro _ _ ⟨x20, rfl, hx20, rfl⟩
            simp only [List.mem_cons, List.not_mem_nil, or_false] at hx20
            refine DJ.norm [_, _, _, _] [_, _, _, _, _] rfl rfl ?_
            refine DJ.one (i := 4) (by kernel_rfl) ?_
            refine DO.yd rfl rfl rfl (fun _ _ _ => Yd.loadC 0 rfl rfl rfl) ?_
            refine DJ.one (i := 8) (by kernel_rfl) ?_
            refine DO.call (pickF _ [2, 3]) (pickF _ [4, 0, 1]) rfl rfl rfl (perm_pickF _ [2, 3] [4, 0, 1] rfl) (fun k0 hk0 dk0 k hk dk => grow_ok 5 _ _ _ _ _ _ _ _ _ [] _ _ _ _ _ hcode.up (by omega) (by omega) (by simp) (by simp) (by omega) (by omega) (by omega) (by omega) (by omega) (by omega) (by omega)) ?_
            rintro _ _ ⟨oK0, aK0, pK0, tK0, xK0, mK0, cK0, bK0, qK0, psK0, kaK0, kcK0, rfl, rfl, hqK0, hrK0, hlK0, hwK0, hzK0⟩
            refine DJ.norm [_, _, _, _] [_, _, _, _, _, _] rfl rfl ?_
            refine DJ.one (i := 10) (by kernel_rfl) ?_
            refine DO.store (v := .agg #[_, _, _, _, _]) (us := [_, _, _, _, _]) 1 rfl rfl rfl rfl rfl rfl rfl rfl rfl rfl ?_
            refine DJ.done (by kernel_rfl) ?_
            refine ⟨(b19, oK0, aK0, pK0, tK0, xK0, mK0, cK0, bK0, qK0, psK0, kaK0, kcK0), ?_, ?_, ?_, Ent.pick [0, 1, 6, 7, 8, 5, 9] [2, 3, 4] rfl⟩
            · exact ⟨by omega, by omega, hlK0, hwK0, by omega⟩
            · exact ⟨rfl, rfl, rfl, trivial⟩
            · exact ⟨rfl, trivial⟩
      · refine DO.alloc ([_, _, _, _, _] : List Value) rfl rfl rfl rfl (fun b20 => ?_)
        refine DJ.two (i := 4) (j := 6) (by kernel_rfl) ?_ ?_
        · refine DO.yd rfl rfl rfl (fun _ _ _ => Yd.loadC 1 rfl rfl rfl) ?_
          refine DJ.one (i := 6) (by kernel_rfl) ?_
          refine DO.op rfl rfl rfl (fun k0 hk0 dk0 => OpR.buildSlice (cs := [_, _, _, _, _]) rfl rfl) ?_
          rintro _ _ ⟨b21, rfl, rfl⟩
          refine DJ.one (i := 7) (by kernel_rfl) ?_
          refine DO.call (pickF _ [1, 2, 3, 4]) (pickF _ [0]) rfl rfl rfl (perm_pickF _ [1, 2, 3, 4] [0] rfl) (fun k0 hk0 dk0 k hk dk => one_ok (l := [3, 2, 4, 1, 0]) (hcode.up) (LitAt.of (l := [3, 2, 4, 1, 0]) hk dk 3 rfl) (by simp) (by omega) (by omega)) ?_
          rintro _ _ ⟨x20, rfl, hx20, rfl⟩
          simp only [List.mem_cons, List.not_mem_nil, or_false] at hx20
          refine DJ.norm [_, _, _, _] [_, _, _, _, _] rfl rfl ?_
          refine DJ.one (i := 8) (by kernel_rfl) ?_
          refine DO.call (pickF _ [2, 3]) (pickF _ [4, 0, 1]) rfl rfl rfl (perm_pickF _ [2, 3] [4, 0, 1] rfl) (fun k0 hk0 dk0 k hk dk => grow_ok 5 _ _ _ _ _ _ _ _ _ [] _ _ _ _ _ hcode.up (by omega) (by omega) (by simp) (by simp) (by omega) (by omega) (by omega) (by omega) (by omega) (by omega) (by omega)) ?_
          rintro _ _ ⟨oK0, aK0, pK0, tK0, xK0, mK0, cK0, bK0, qK0, psK0, kaK0, kcK0, rfl, rfl, hqK0, hrK0, hlK0, hwK0, hzK0⟩
          refine DJ.norm [_, _, _, _] [_, _, _, _, _, _] rfl rfl ?_
          refine DJ.one (i := 10) (by kernel_rfl) ?_
          refine DO.store (v := .agg #[_, _, _, _, _]) (us := [_, _, _, _, _]) 0 rfl rfl rfl rfl rfl rfl rfl rfl rfl rfl ?_
          refine DJ.done (by kernel_rfl) ?_
          refine ⟨(b20, oK0, aK0, pK0, tK0, xK0, mK0, cK0, bK0, qK0, psK0, kaK0, kcK0), ?_, ?_, ?_, Ent.pick [0, 1, 6, 7, 8, 4, 9] [2, 3, 5] rfl⟩
          · exact ⟨by omega, by omega, hlK0, hwK0, by omega⟩
          · exact ⟨rfl, rfl, rfl, trivial⟩
          · exact ⟨rfl, trivial⟩
        · refine DO.op rfl rfl rfl (fun k0 hk0 dk0 => OpR.buildSlice (cs := [_, _, _, _, _]) rfl rfl) ?_
          rintro _ _ ⟨b22, rfl, rfl⟩
          refine DJ.two (i := 4) (j := 7) (by kernel_rfl) ?_ ?_
          · refine DO.yd rfl rfl rfl (fun _ _ _ => Yd.loadC 1 rfl rfl rfl) ?_
            refine DJ.one (i := 7) (by kernel_rfl) ?_
            refine DO.call (pickF _ [1, 2, 3, 4]) (pickF _ [0]) rfl rfl rfl (perm_pickF _ [1, 2, 3, 4] [0] rfl) (fun k0 hk0 dk0 k hk dk => one_ok (l := [3, 2, 4, 1, 0]) (hcode.up) (LitAt.of (l := [3, 2, 4, 1, 0]) hk dk 3 rfl) (by simp) (by omega) (by omega)) ?_
            rintro _ _ ⟨x20, rfl, hx20, rfl⟩
            simp only [List.mem_cons, List.not_mem_nil, or_false] at hx20
            refine DJ.norm [_, _, _, _] [_, _, _, _, _] rfl rfl ?_
            refine DJ.one (i := 8) (by kernel_rfl) ?_
            refine DO.call (pickF _ [2, 3]) (pickF _ [4, 0, 1]) rfl rfl rfl (perm_pickF _ [2, 3] [4, 0, 1] rfl) (fun k0 hk0 dk0 k hk dk => grow_ok 5 _ _ _ _ _ _ _ _ _ [] _ _ _ _ _ hcode.up (by omega) (by omega) (by simp) (by simp) (by omega) (by omega) (by omega) (by omega) (by omega) (by omega) (by omega)) ?_
            rintro _ _ ⟨oK0, aK0, pK0, tK0, xK0, mK0, cK0, bK0, qK0, psK0, kaK0, kcK0, rfl, rfl, hqK0, hrK0, hlK0, hwK0, hzK0⟩
            refine DJ.norm [_, _, _, _] [_, _, _, _, _, _] rfl rfl ?_
            refine DJ.one (i := 10) (by kernel_rfl) ?_
            refine DO.store (v := .agg #[_, _, _, _, _]) (us := [_, _, _, _, _]) 0 rfl rfl rfl rfl rfl rfl rfl rfl rfl rfl ?_
            refine DJ.done (by kernel_rfl) ?_
            refine ⟨(b20, oK0, aK0, pK0, tK0, xK0, mK0, cK0, bK0, qK0, psK0, kaK0, kcK0), ?_, ?_, ?_, Ent.pick [0, 1, 6, 7, 8, 4, 9] [2, 3, 5] rfl⟩
            · exact ⟨by omega, by omega, hlK0, hwK0, by omega⟩
            · exact ⟨rfl, rfl, rfl, trivial⟩
            · exact ⟨rfl, trivial⟩
          · refine DO.call (pickF _ [1, 2, 3, 4]) (pickF _ [0]) rfl rfl rfl (perm_pickF _ [1, 2, 3, 4] [0] rfl) (fun k0 hk0 dk0 k hk dk => one_ok (l := [3, 2, 4, 1, 0]) (hcode.up) (LitAt.of (l := [3, 2, 4, 1, 0]) hk dk 3 rfl) (by simp) (by omega) (by omega)) ?_
            rintro _ _ ⟨x20, rfl, hx20, rfl⟩
            simp only [List.mem_cons, List.not_mem_nil, or_false] at hx20
            refine DJ.norm [_, _, _, _] [_, _, _, _, _] rfl rfl ?_
            refine DJ.one (i := 4) (by kernel_rfl) ?_
            refine DO.yd rfl rfl rfl (fun _ _ _ => Yd.loadC 0 rfl rfl rfl) ?_
            refine DJ.one (i := 8) (by kernel_rfl) ?_
            refine DO.call (pickF _ [2, 3]) (pickF _ [4, 0, 1]) rfl rfl rfl (perm_pickF _ [2, 3] [4, 0, 1] rfl) (fun k0 hk0 dk0 k hk dk => grow_ok 5 _ _ _ _ _ _ _ _ _ [] _ _ _ _ _ hcode.up (by omega) (by omega) (by simp) (by simp) (by omega) (by omega) (by omega) (by omega) (by omega) (by omega) (by omega)) ?_
            rintro _ _ ⟨oK0, aK0, pK0, tK0, xK0, mK0, cK0, bK0, qK0, psK0, kaK0, kcK0, rfl, rfl, hqK0, hrK0, hlK0, hwK0, hzK0⟩
            refine DJ.norm [_, _, _, _] [_, _, _, _, _, _] rfl rfl ?_
            refine DJ.one (i := 10) (by kernel_rfl) ?_
            refine DO.store (v := .agg #[_, _, _, _, _]) (us := [_, _, _, _, _]) 0 rfl rfl rfl rfl rfl rfl rfl rfl rfl rfl ?_
            refine DJ.done (by kernel_rfl) ?_
            refine ⟨(b20, oK0, aK0, pK0, tK0, xK0, mK0, cK0, bK0, qK0, psK0, kaK0, kcK0), ?_, ?_, ?_, Ent.pick [0, 1, 6, 7, 8, 4, 9] [2, 3, 5] rfl⟩
            · exact ⟨by omega, by omega, hlK0, hwK0, by omega⟩
            · exact ⟨rfl, rfl, rfl, trivial⟩
            · exact ⟨rfl, trivial⟩
    · refine DO.yd rfl rfl rfl (fun _ _ _ => Yd.loadC 1 rfl rfl rfl) ?_
      refine DJ.three (i := 2) (j := 6) (m := 9) (by kernel_rfl) ?_ ?_ ?_
      · refine DO.yd rfl rfl rfl (fun _ _ _ => Yd.loadC 1 rfl rfl rfl) ?_
        refine DJ.two (i := 6) (j := 9) (by kernel_rfl) ?_ ?_
        · refine DO.op rfl rfl rfl (fun k0 hk0 dk0 => OpR.buildSlice (cs := [_, _, _, _, _]) rfl rfl) ?_
          rintro _ _ ⟨b23, rfl, rfl⟩
          refine DJ.two (i := 7) (j := 9) (by kernel_rfl) ?_ ?_
          · refine DO.call (pickF _ [1, 2, 3]) (pickF _ [0]) rfl rfl rfl (perm_pickF _ [1, 2, 3] [0] rfl) (fun k0 hk0 dk0 k hk dk => one_ok (l := [3, 2, 4, 1, 0]) (hcode.up) (LitAt.of (l := [3, 2, 4, 1, 0]) hk dk 2 rfl) (by simp) (by omega) (by omega)) ?_
            rintro _ _ ⟨x20, rfl, hx20, rfl⟩
            simp only [List.mem_cons, List.not_mem_nil, or_false] at hx20
            refine DJ.norm [_, _, _, _] [_, _, _, _] rfl rfl ?_
            refine DJ.two (i := 8) (j := 9) (by kernel_rfl) ?_ ?_
            · refine DO.call (pickF _ [2]) (pickF _ [3, 0, 1]) rfl rfl rfl (perm_pickF _ [2] [3, 0, 1] rfl) (fun k0 hk0 dk0 k hk dk => grow_ok 5 _ _ _ _ _ _ _ _ _ [] _ _ _ _ _ hcode.up (by omega) (by omega) (by simp) (by simp) (by omega) (by omega) (by omega) (by omega) (by omega) (by omega) (by omega)) ?_
              rintro _ _ ⟨oK0, aK0, pK0, tK0, xK0, mK0, cK0, bK0, qK0, psK0, kaK0, kcK0, rfl, rfl, hqK0, hrK0, hlK0, hwK0, hzK0⟩
              refine DJ.norm [_, _, _, _] [_, _, _, _, _] rfl rfl ?_
              refine DJ.one (i := 9) (by kernel_rfl) ?_
              refine DO.alloc ([_, _, _, _, _] : List Value) rfl rfl rfl rfl (fun b24 => ?_)
              refine DJ.one (i := 10) (by kernel_rfl) ?_
              refine DO.store (v := .agg #[_, _, _, _, _]) (us := [_, _, _, _, _]) 5 rfl rfl rfl rfl rfl rfl rfl rfl rfl rfl ?_
              refine DJ.done (by kernel_rfl) ?_
              refine ⟨(b24, oK0, aK0, pK0, tK0, xK0, mK0, cK0, bK0, qK0, psK0, kaK0, kcK0), ?_, ?_, ?_, Ent.pick [0, 1, 5, 6, 7, 9, 8] [2, 3, 4] rfl⟩
              · exact ⟨by omega, by omega, hlK0, hwK0, by omega⟩
              · exact ⟨rfl, rfl, rfl, trivial⟩
              · exact ⟨rfl, trivial⟩
            · refine DO.alloc ([_, _, _, _, _] : List Value) rfl rfl rfl rfl (fun b25 => ?_)
              refine DJ.one (i := 8) (by kernel_rfl) ?_
              refine DO.call (pickF _ [2, 4]) (pickF _ [3, 0, 1]) rfl rfl rfl (perm_pickF _ [2, 4] [3, 0, 1] rfl) (fun k0 hk0 dk0 k hk dk => grow_ok 5 _ _ _ _ _ _ _ _ _ [] _ _ _ _ _ hcode.up (by omega) (by omega) (by simp) (by simp) (by omega) (by omega) (by omega) (by omega) (by omega) (by omega) (by omega)) ?_
              rintro _ _ ⟨oK0, aK0, pK0, tK0, xK0, mK0, cK0, bK0, qK0, psK0, kaK0, kcK0, rfl, rfl, hqK0, hrK0, hlK0, hwK0, hzK0⟩
              refine DJ.norm [_, _, _, _] [_, _, _, _, _, _] rfl rfl ?_
              refine DJ.one (i := 10) (by kernel_rfl) ?_
              refine DO.store (v := .agg #[_, _, _, _, _]) (us := [_, _, _, _, _]) 1 rfl rfl rfl rfl rfl rfl rfl rfl rfl rfl ?_
              refine DJ.done (by kernel_rfl) ?_
              refine ⟨(b25, oK0, aK0, pK0, tK0, xK0, mK0, cK0, bK0, qK0, psK0, kaK0, kcK0), ?_, ?_, ?_, Ent.pick [0, 1, 6, 7, 8, 5, 9] [2, 3, 4] rfl⟩
              · exact ⟨by omega, by omega, hlK0, hwK0, by omega⟩
              · exact ⟨rfl, rfl, rfl, trivial⟩
              · exact ⟨rfl, trivial⟩
          · refine DO.alloc ([_, _, _, _, _] : List Value) rfl rfl rfl rfl (fun b26 => ?_)
            refine DJ.one (i := 7) (by kernel_rfl) ?_
            refine DO.call (pickF _ [1, 2, 3, 4]) (pickF _ [0]) rfl rfl rfl (perm_pickF _ [1, 2, 3, 4] [0] rfl) (fun k0 hk0 dk0 k hk dk => one_ok (l := [3, 2, 4, 1, 0]) (hcode.up) (LitAt.of (l := [3, 2, 4, 1, 0]) hk dk 2 rfl) (by simp) (by omega) (by omega)) ?_
            rintro _ _ ⟨x20, rfl, hx20, rfl⟩
            simp only [List.mem_cons, List.not_mem_nil, or_false] at hx20
            refine DJ.norm [_, _, _, _] [_, _, _, _, _] rfl rfl ?_
            refine DJ.one (i := 8) (by kernel_rfl) ?_
            refine DO.call (pickF _ [2, 3]) (pickF _ [4, 0, 1]) rfl rfl rfl (perm_pickF _ [2, 3] [4, 0, 1] rfl) (fun k0 hk0 dk0 k hk dk => grow_ok 5 _ _ _ _ _ _ _ _ _ [] _ _ _ _ _ hcode.up (by omega) (by omega) (by simp) (by simp) (by omega) (by omega) (by omega) (by omega) (by omega) (by omega) (by omega)) ?_
            rintro _ _ ⟨oK0, aK0, pK0, tK0, xK0, mK0, cK0, bK0, qK0, psK0, kaK0, kcK0, rfl, rfl, hqK0, hrK0, hlK0, hwK0, hzK0⟩
            refine DJ.norm [_, _, _, _] [_, _, _, _, _, _] rfl rfl ?_
            refine DJ.one (i := 10) (by kernel_rfl) ?_
            refine DO.store (v := .agg #[_, _, _, _, _]) (us := [_, _, _, _, _]) 1 rfl rfl rfl rfl rfl rfl rfl rfl rfl rfl ?_
            refine DJ.done (by kernel_rfl) ?_
            refine ⟨(b26, oK0, aK0, pK0, tK0, xK0, mK0, cK0, bK0, qK0, psK0, kaK0, kcK0), ?_, ?_, ?_, Ent.pick [0, 1, 6, 7, 8, 5, 9] [2, 3, 4] rfl⟩
            · exact ⟨by omega, by omega, hlK0, hwK0, by omega⟩
            · exact ⟨rfl, rfl, rfl, trivial⟩
            · exact ⟨rfl, trivial⟩
        · refine DO.alloc ([_, _, _, _, _] : List Value) rfl rfl rfl rfl (fun b27 => ?_)
          refine DJ.one (i := 6) (by kernel_rfl) ?_
          refine DO.op rfl rfl rfl (fun k0 hk0 dk0 => OpR.buildSlice (cs := [_, _, _, _, _]) rfl rfl) ?_
          rintro _ _ ⟨b28, rfl, rfl⟩
          refine DJ.one (i := 7) (by kernel_rfl) ?_
          refine DO.call (pickF _ [1, 2, 3, 4]) (pickF _ [0]) rfl rfl rfl (perm_pickF _ [1, 2, 3, 4] [0] rfl) (fun k0 hk0 dk0 k hk dk => one_ok (l := [3, 2, 4, 1, 0]) (hcode.up) (LitAt.of (l := [3, 2, 4, 1, 0]) hk dk 3 rfl) (by simp) (by omega) (by omega)) ?_
          rintro _ _ ⟨x20, rfl, hx20, rfl⟩
          simp only [List.mem_cons, List.not_mem_nil, or_false] at hx20
          refine DJ.norm [_, _, _, _] [_, _, _, _, _] rfl rfl ?_
          refine DJ.one (i := 8) (by kernel_rfl) ?_
          refine DO.call (pickF _ [2, 3]) (pickF _ [4, 0, 1]) rfl rfl rfl (perm_pickF _ [2, 3] [4, 0, 1] rfl) (fun k0 hk0 dk0 k hk dk => grow_ok 5 _ _ _ _ _ _ _ _ _ [] _ _ _ _ _ hcode.up (by omega) (by omega) (by simp) (by simp) (by omega) (by omega) (by omega) (by omega) (by omega) (by omega) (by omega)) ?_
          rintro _ _ ⟨oK0, aK0, pK0, tK0, xK0, mK0, cK0, bK0, qK0, psK0, kaK0, kcK0, rfl, rfl, hqK0, hrK0, hlK0, hwK0, hzK0⟩
          refine DJ.norm [_, _, _, _] [_, _, _, _, _, _] rfl rfl ?_
          refine DJ.one (i := 10) (by kernel_rfl) ?_
          refine DO.store (v := .agg #[_, _, _, _, _]) (us := [_, _, _, _, _]) 0 rfl rfl rfl rfl rfl rfl rfl rfl rfl rfl ?_
          refine DJ.done (by kernel_rfl) ?_
          refine ⟨(b27, oK0, aK0, pK0, tK0, xK0, mK0, cK0, bK0, qK0, psK0, kaK0, kcK0), ?_, ?_, ?_, Ent.pick [0, 1, 6, 7, 8, 4, 9] [2, 3, 5] rfl⟩
          · exact ⟨by omega, by omega, hlK0, hwK0, by omega⟩
          · exact ⟨rfl, rfl, rfl, trivial⟩
          · exact ⟨rfl, trivial⟩
      · refine DO.op rfl rfl rfl (fun k0 hk0 dk0 => OpR.buildSlice (cs := [_, _, _, _, _]) rfl rfl) ?_
        rintro _ _ ⟨b29, rfl, rfl⟩
        refine DJ.three (i := 2) (j := 7) (m := 9) (by kernel_rfl) ?_ ?_ ?_
        · refine DO.yd rfl rfl rfl (fun _ _ _ => Yd.loadC 1 rfl rfl rfl) ?_
          refine DJ.two (i := 7) (j := 9) (by kernel_rfl) ?_ ?_
          · refine DO.call (pickF _ [1, 2, 3]) (pickF _ [0]) rfl rfl rfl (perm_pickF _ [1, 2, 3] [0] rfl) (fun k0 hk0 dk0 k hk dk => one_ok (l := [3, 2, 4, 1, 0]) (hcode.up) (LitAt.of (l := [3, 2, 4, 1, 0]) hk dk 2 rfl) (by simp) (by omega) (by omega)) ?_
            rintro _ _ ⟨x20, rfl, hx20, rfl⟩
            simp only [List.mem_cons, List.not_mem_nil, or_false] at hx20
            refine DJ.norm [_, _, _, _] [_, _, _, _] rfl rfl ?_
            refine DJ.two (i := 8) (j := 9) (by kernel_rfl) ?_ ?_
            · refine DO.call (pickF _ [2]) (pickF _ [3, 0, 1]) rfl rfl rfl (perm_pickF _ [2] [3, 0, 1] rfl) (fun k0 hk0 dk0 k hk dk => grow_ok 5 _ _ _ _ _ _ _ _ _ [] _ _ _ _ _ hcode.up (by omega) (by omega) (by simp) (by simp) (by omega) (by omega) (by omega) (by omega) (by omega) (by omega) (by omega)) ?_
              rintro _ _ ⟨oK0, aK0, pK0, tK0, xK0, mK0, cK0, bK0, qK0, psK0, kaK0, kcK0, rfl, rfl, hqK0, hrK0, hlK0, hwK0, hzK0⟩
              refine DJ.norm [_, _, _, _] [_, _, _, _, _] rfl rfl ?_
              refine DJ.one (i := 9) (by kernel_rfl) ?_
              refine DO.alloc ([_, _, _, _, _] : List Value) rfl rfl rfl rfl (fun b30 => ?_)
              refine DJ.one (i := 10) (by kernel_rfl) ?_
              refine DO.store (v := .agg #[_, _, _, _, _]) (us := [_, _, _, _, _]) 5 rfl rfl rfl rfl rfl rfl rfl rfl rfl rfl ?_
              refine DJ.done (by kernel_rfl) ?_
              refine ⟨(b30, oK0, aK0, pK0, tK0, xK0, mK0, cK0, bK0, qK0, psK0, kaK0, kcK0), ?_, ?_, ?_, Ent.pick [0, 1, 5, 6, 7, 9, 8] [2, 3, 4] rfl⟩
              · exact ⟨by omega, by omega, hlK0, hwK0, by omega⟩
              · exact ⟨rfl, rfl, rfl, trivial⟩
              · exact ⟨rfl, trivial⟩
            · refine DO.alloc ([_, _, _, _, _] : List Value) rfl rfl rfl rfl (fun b31 => ?_)
              refine DJ.one (i := 8) (by kernel_rfl) ?_
              refine DO.call (pickF _ [2, 4]) (pickF _ [3, 0, 1]) rfl rfl rfl (perm_pickF _ [2, 4] [3, 0, 1] rfl) (fun k0 hk0 dk0 k hk dk => grow_ok 5 _ _ _ _ _ _ _ _ _ [] _ _ _ _ _ hcode.up (by omega) (by omega) (by simp) (by simp) (by omega) (by omega) (by omega) (by omega) (by omega) (by omega) (by omega)) ?_
              rintro _ _ ⟨oK0, aK0, pK0, tK0, xK0, mK0, cK0, bK0, qK0, psK0, kaK0, kcK0, rfl, rfl, hqK0, hrK0, hlK0, hwK0, hzK0⟩
              refine DJ.norm [_, _, _, _] [_, _, _, _, _, _] rfl rfl ?_
              refine DJ.one (i := 10) (by kernel_rfl) ?_
              refine DO.store (v := .agg #[_, _, _, _, _]) (us := [_, _, _, _, _]) 1 rfl rfl rfl rfl rfl rfl rfl rfl rfl rfl ?_
              refine DJ.done (by kernel_rfl) ?_
              refine ⟨(b31, oK0, aK0, pK0, tK0, xK0, mK0, cK0, bK0, qK0, psK0, kaK0, kcK0), ?_, ?_, ?_, Ent.pick [0, 1, 6, 7, 8, 5, 9] [2, 3, 4] rfl⟩
              · exact ⟨by omega, by omega, hlK0, hwK0, by omega⟩
              · exact ⟨rfl, rfl, rfl, trivial⟩
              · exact ⟨rfl, trivial⟩
          · refine DO.alloc ([_, _, _, _, _] : List Value) rfl rfl rfl rfl (fun b32 => ?_)
            refine DJ.one (i := 7) (by kernel_rfl) ?_
            refine DO.call (pickF _ [1, 2, 3, 4]) (pickF _ [0]) rfl rfl rfl (perm_pickF _ [1, 2, 3, 4] [0] rfl) (fun k0 hk0 dk0 k hk dk => one_ok (l := [3, 2, 4, 1, 0]) (hcode.up) (LitAt.of (l := [3, 2, 4, 1, 0]) hk dk 2 rfl) (by simp) (by omega) (by omega)) ?_
            rintro _ _ ⟨x20, rfl, hx20, rfl⟩
            simp only [List.mem_cons, List.not_mem_nil, or_false] at hx20
            refine DJ.norm [_, _, _, _] [_, _, _, _, _] rfl rfl ?_
            refine DJ.one (i := 8) (by kernel_rfl) ?_
            refine DO.call (pickF _ [2, 3]) (pickF _ [4, 0, 1]) rfl rfl rfl (perm_pickF _ [2, 3] [4, 0, 1] rfl) (fun k0 hk0 dk0 k hk dk => grow_ok 5 _ _ _ _ _ _ _ _ _ [] _ _ _ _ _ hcode.up (by omega) (by omega) (by simp) (by simp) (by omega) (by omega) (by omega) (by omega) (by omega) (by omega) (by omega)) ?_
            rintro _ _ ⟨oK0, aK0, pK0, tK0, xK0, mK0, cK0, bK0, qK0, psK0, kaK0, kcK0, rfl, rfl, hqK0, hrK0, hlK0, hwK0, hzK0⟩
            refine DJ.norm [_, _, _, _] [_, _, _, _, _, _] rfl rfl ?_
            refine DJ.one (i := 10) (by kernel_rfl) ?_
            refine DO.store (v := .agg #[_, _, _, _, _]) (us := [_, _, _, _, _]) 1 rfl rfl rfl rfl rfl rfl rfl rfl rfl rfl ?_
            refine DJ.done (by kernel_rfl) ?_
            refine ⟨(b32, oK0, aK0, pK0, tK0, xK0, mK0, cK0, bK0, qK0, psK0, kaK0, kcK0), ?_, ?_, ?_, Ent.pick [0, 1, 6, 7, 8, 5, 9] [2, 3, 4] rfl⟩
            · exact ⟨by omega, by omega, hlK0, hwK0, by omega⟩
            · exact ⟨rfl, rfl, rfl, trivial⟩
            · exact ⟨rfl, trivial⟩
        · refine DO.call (pickF _ [1, 2, 3]) (pickF _ [0]) rfl rfl rfl (perm_pickF _ [1, 2, 3] [0] rfl) (fun k0 hk0 dk0 k hk dk => one_ok (l := [3, 2, 4, 1, 0]) (hcode.up) (LitAt.of (l := [3, 2, 4, 1, 0]) hk dk 2 rfl) (by simp) (by omega) (by omega)) ?_
          rintro _ _ ⟨x20, rfl, hx20, rfl⟩
          simp only [List.mem_cons, List.not_mem_nil, or_false] at hx20
          refine DJ.norm [_, _, _, _] [_, _, _, _] rfl rfl ?_
          refine DJ.two (i := 2) (j := 9) (by kernel_rfl) ?_ ?_
          · refine DO.yd rfl rfl rfl (fun _ _ _ => Yd.loadC 0 rfl rfl rfl) ?_
            refine DJ.two (i := 8) (j := 9) (by kernel_rfl) ?_ ?_
            · refine DO.call (pickF _ [2]) (pickF _ [3, 0, 1]) rfl rfl rfl (perm_pickF _ [2] [3, 0, 1] rfl) (fun k0 hk0 dk0 k hk dk => grow_ok 5 _ _ _ _ _ _ _ _ _ [] _ _ _ _ _ hcode.up (by omega) (by omega) (by simp) (by simp) (by omega) (by omega) (by omega) (by omega) (by omega) (by omega) (by omega)) ?_
              rintro _ _ ⟨oK0, aK0, pK0, tK0, xK0, mK0, cK0, bK0, qK0, psK0, kaK0, kcK0, rfl, rfl, hqK0, hrK0, hlK0, hwK0, hzK0⟩
              refine DJ.norm [_, _, _, _] [_, _, _, _, _] rfl rfl ?_
              refine DJ.one (i := 9) (by kernel_rfl) ?_
              refine DO.alloc ([_, _, _, _, _] : List Value) rfl rfl rfl rfl (fun b33 => ?_)
              refine DJ.one (i := 10) (by kernel_rfl) ?_
              refine DO.store (v := .agg #[_, _, _, _, _]) (us := [_, _, _, _, _]) 5 rfl rfl rfl rfl rfl rfl rfl rfl rfl rfl ?_
              refine DJ.done (by kernel_rfl) ?_
              refine ⟨(b33, oK0, aK0, pK0, tK0, xK0, mK0, cK0, bK0, qK0, psK0, kaK0, kcK0), ?_, ?_, ?_, Ent.pick [0, 1, 5, 6, 7, 9, 8] [2, 3, 4] rfl⟩
              · exact ⟨by omega, by omega, hlK0, hwK0, by omega⟩
              · exact ⟨rfl, rfl, rfl, trivial⟩
              · exact ⟨rfl, trivial⟩
            · refine DO.alloc ([_, _, _, _, _] : List Value) rfl rfl rfl rfl (fun b34 => ?_)
              refine DJ.one (i := 8) (by kernel_rfl) ?_
              refine DO.call (pickF _ [2, 4]) (pickF _ [3, 0, 1]) rfl rfl rfl (perm_pickF _ [2, 4] [3, 0, 1] rfl) (fun k0 hk0 dk0 k hk dk => grow_ok 5 _ _ _ _ _ _ _ _ _ [] _ _ _ _ _ hcode.up (by omega) (by omega) (by simp) (by simp) (by omega) (by omega) (by omega) (by omega) (by omega) (by omega) (by omega)) ?_
              rintro _ _ ⟨oK0, aK0, pK0, tK0, xK0, mK0, cK0, bK0, qK0, psK0, kaK0, kcK0, rfl, rfl, hqK0, hrK0, hlK0, hwK0, hzK0⟩
              refine DJ.norm [_, _, _, _] [_, _, _, _, _, _] rfl rfl ?_
              refine DJ.one (i := 10) (by kernel_rfl) ?_
              refine DO.store (v := .agg #[_, _, _, _, _]) (us := [_, _, _, _, _]) 1 rfl rfl rfl rfl rfl rfl rfl rfl rfl rfl ?_
              refine DJ.done (by kernel_rfl) ?_
              refine ⟨(b34, oK0, aK0, pK0, tK0, xK0, mK0, cK0, bK0, qK0, psK0, kaK0, kcK0), ?_, ?_, ?_, Ent.pick [0, 1, 6, 7, 8, 5, 9] [2, 3, 4] rfl⟩
              · exact ⟨by omega, by omega, hlK0, hwK0, by omega⟩
              · exact ⟨rfl, rfl, rfl, trivial⟩
              · exact ⟨rfl, trivial⟩
          · refine DO.alloc ([_, _, _, _, _] : List Value) rfl rfl rfl rfl (fun b35 => ?_)
            refine DJ.one (i := 2) (by kernel_rfl) ?_
            refine DO.yd rfl rfl rfl (fun _ _ _ => Yd.loadC 0 rfl rfl rfl) ?_
            refine DJ.one (i := 8) (by kernel_rfl) ?_
            refine DO.call (pickF _ [2, 4]) (pickF _ [3, 0, 1]) rfl rfl rfl (perm_pickF _ [2, 4] [3, 0, 1] rfl) (fun k0 hk0 dk0 k hk dk => grow_ok 5 _ _ _ _ _ _ _ _ _ [] _ _ _ _ _ hcode.up (by omega) (by omega) (by simp) (by simp) (by omega) (by omega) (by omega) (by omega) (by omega) (by omega) (by omega)) ?_
            rintro _ _ ⟨oK0, aK0, pK0, tK0, xK0, mK0, cK0, bK0, qK0, psK0, kaK0, kcK0, rfl, rfl, hqK0, hrK0, hlK0, hwK0, hzK0⟩
            refine DJ.norm [_, _, _, _] [_, _, _, _, _, _] rfl rfl ?_
            refine DJ.one (i := 10) (by kernel_rfl) ?_
            refine DO.store (v := .agg #[_, _, _, _, _]) (us := [_, _, _, _, _]) 1 rfl rfl rfl rfl rfl rfl rfl rfl rfl rfl ?_
            refine DJ.done (by kernel_rfl) ?_
            refine ⟨(b35, oK0, aK0, pK0, tK0, xK0, mK0, cK0, bK0, qK0, psK0, kaK0, kcK0), ?_, ?_, ?_, Ent.pick [0, 1, 6, 7, 8, 5, 9] [2, 3, 4] rfl⟩
            · exact ⟨by omega, by omega, hlK0, hwK0, by omega⟩
            · exact ⟨rfl, rfl, rfl, trivial⟩
            · exact ⟨rfl, trivial⟩
        · refine DO.alloc ([_, _, _, _, _] : List Value) rfl rfl rfl rfl (fun b36 => ?_)
          refine DJ.two (i := 2) (j := 7) (by kernel_rfl) ?_ ?_
          · refine DO.yd rfl rfl rfl (fun _ _ _ => Yd.loadC 1 rfl rfl rfl) ?_
            refine DJ.one (i := 7) (by kernel_rfl) ?_
            refine DO.call (pickF _ [1, 2, 3, 4]) (pickF _ [0]) rfl rfl rfl (perm_pickF _ [1, 2, 3, 4] [0] rfl) (fun k0 hk0 dk0 k hk dk => one_ok (l := [3, 2, 4, 1, 0]) (hcode.up) (LitAt.of (l := [3, 2, 4, 1, 0]) hk dk 2 rfl) (by simp) (by omega) (by omega)) ?_
            rintro _ _ ⟨x20, rfl, hx20, rfl⟩
            simp only [List.mem_cons, List.not_mem_nil, or_false] at hx20
            refine DJ.norm [_, _, _, _] [_, _, _, _, _] rfl rfl ?_
            refine DJ.one (i := 8) (by kernel_rfl) ?_
            refine DO.call (pickF _ [2, 3]) (pickF _ [4, 0, 1]) rfl rfl rfl (perm_pickF _ [2, 3] [4, 0, 1] rfl) (fun k0 hk0 dk0 k hk dk => grow_ok 5 _ _ _ _ _ _ _ _ _ [] _ _ _ _ _ hcode.up (by omega) (by omega) (by simp) (by simp) (by omega) (by omega) (by omega) (by omega) (by omega) (by omega) (by omega)) ?_
            rintro _ _ ⟨oK0, aK0, pK0, tK0, xK0, mK0, cK0, bK0, qK0, psK0, kaK0, kcK0, rfl, rfl, hqK0, hrK0, hlK0, hwK0, hzK0⟩
            refine DJ.norm [_, _, _, _] [_, _, _, _, _, _] rfl rfl ?_
            refine DJ.one (i := 10) (by kernel_rfl) ?_
            refine DO.store (v := .agg #[_, _, _, _, _]) (us := [_, _, _, _, _]) 1 rfl rfl rfl rfl rfl rfl rfl rfl rfl rfl ?_
            refine DJ.done (by kernel_rfl) ?_
            refine ⟨(b36, oK0, aK0, pK0, tK0, xK0, mK0, cK0, bK0, qK0, psK0, kaK0, kcK0), ?_, ?_, ?_, Ent.pick [0, 1, 6, 7, 8, 5, 9] [2, 3, 4] rfl⟩
            · exact ⟨by omega, by omega, hlK0, hwK0, by omega⟩
            · exact ⟨rfl, rfl, rfl, trivial⟩
            · exact ⟨rfl, trivial⟩
          · refine DO.call (pickF _ [1, 2, 3, 4]) (pickF _ [0]) rfl rfl rfl (perm_pickF _ [1, 2, 3, 4] [0] rfl) (fun k0 hk0 dk0 k hk dk => one_ok (l := [3, 2, 4, 1, 0]) (hcode.up) (LitAt.of (l := [3, 2, 4, 1, 0]) hk dk 2 rfl) (by simp) (by omega) (by omega)) ?_
            rintro _ _ ⟨x20, rfl, hx20, rfl⟩
            simp only [List.mem_cons, List.not_mem_nil, or_false] at hx20
            refine DJ.norm [_, _, _, _] [_, _, _, _, _] rfl rfl ?_
            refine DJ.one (i := 2) (by kernel_rfl) ?_
            refine DO.yd rfl rfl rfl (fun _ _ _ => Yd.loadC 0 rfl rfl rfl) ?_
            refine DJ.one (i := 8) (by kernel_rfl) ?_
            refine DO.call (pickF _ [2, 3]) (pickF _ [4, 0, 1]) rfl rfl rfl (perm_pickF _ [2, 3] [4, 0, 1] rfl) (fun k0 hk0 dk0 k hk dk => grow_ok 5 _ _ _ _ _ _ _ _ _ [] _ _ _ _ _ hcode.up (by omega) (by omega) (by simp) (by simp) (by omega) (by omega) (by omega) (by omega) (by omega) (by omega) (by omega)) ?_
            rintro _ _ ⟨oK0, aK0, pK0, tK0, xK0, mK0, cK0, bK0, qK0, psK0, kaK0, kcK0, rfl, rfl, hqK0, hrK0, hlK0, hwK0, hzK0⟩
            refine DJ.norm [_, _, _, _] [_, _, _, _, _, _] rfl rfl ?_
            refine DJ.one (i := 10) (by kernel_rfl) ?_
            refine DO.store (v := .agg #[_, _, _, _, _]) (us := [_, _, _, _, _]) 1 rfl rfl rfl rfl rfl rfl rfl rfl rfl rfl ?_
            refine DJ.done (by kernel_rfl) ?_
            refine ⟨(b36, oK0, aK0, pK0, tK0, xK0, mK0, cK0, bK0, qK0, psK0, kaK0, kcK0), ?_, ?_, ?_, Ent.pick [0, 1, 6, 7, 8, 5, 9] [2, 3, 4] rfl⟩
            · exact ⟨by omega, by omega, hlK0, hwK0, by omega⟩
            · exact ⟨rfl, rfl, rfl, trivial⟩
            · exact ⟨rfl, trivial⟩
      · refine DO.alloc ([_, _, _, _, _] : List Value) rfl rfl rfl rfl (fun b37 => ?_)
        refine DJ.two (i := 2) (j := 6) (by kernel_rfl) ?_ ?_
        · refine DO.yd rfl rfl rfl (fun _ _ _ => Yd.loadC 1 rfl rfl rfl) ?_
          refine DJ.one (i := 6) (by kernel_rfl) ?_
          refine DO.op rfl rfl rfl (fun k0 hk0 dk0 => OpR.buildSlice (cs := [_, _, _, _, _]) rfl rfl) ?_
          rintro _ _ ⟨b38, rfl, rfl⟩
          refine DJ.one (i := 7) (by kernel_rfl) ?_
          refine DO.call (pickF _ [1, 2, 3, 4]) (pickF _ [0]) rfl rfl rfl (perm_pickF _ [1, 2, 3, 4] [0] rfl) (fun k0 hk0 dk0 k hk dk => one_ok (l := [3, 2, 4, 1, 0]) (hcode.up) (LitAt.of (l := [3, 2, 4, 1, 0]) hk dk 3 rfl) (by simp) (by omega) (by omega)) ?_
          rintro _ _ ⟨x20, rfl, hx20, rfl⟩
          simp only [List.mem_cons, List.not_mem_nil, or_false] at hx20
          refine DJ.norm [_, _, _, _] [_, _, _, _, _] rfl rfl ?_
          refine DJ.one (i := 8) (by kernel_rfl) ?_
          refine DO.call (pickF _ [2, 3]) (pickF _ [4, 0, 1]) rfl rfl rfl (perm_pickF _ [2, 3] [4, 0, 1] rfl) (fun k0 hk0 dk0 k hk dk => grow_ok 5 _ _ _ _ _ _ _ _ _ [] _ _ _ _ _ hcode.up (by omega) (by omega) (by simp) (by simp) (by omega) (by omega) (by omega) (by omega) (by omega) (by omega) (by omega)) ?_
          rintro _ _ ⟨oK0, aK0, pK0, tK0, xK0, mK0, cK0, bK0, qK0, psK0, kaK0, kcK0, rfl, rfl, hqK0, hrK0, hlK0, hwK0, hzK0⟩
          refine DJ.norm [_, _, _, _] [_, _, _, _, _, _] rfl rfl ?_
          refine DJ.one (i := 10) (by kernel_rfl) ?_
          refine DO.store (v := .agg #[_, _, _, _, _]) (us := [_, _, _, _, _]) 0 rfl rfl rfl rfl rfl rfl rfl rfl rfl rfl ?_
          refine DJ.done (by kernel_rfl) ?_
          refine ⟨(b37, oK0, aK0, pK0, tK0, xK0, mK0, cK0, bK0, qK0, psK0, kaK0, kcK0), ?_, ?_, ?_, Ent.pick [0, 1, 6, 7, 8, 4, 9] [2, 3, 5] rfl⟩
          · exact ⟨by omega, by omega, hlK0, hwK0, by omega⟩
          · exact ⟨rfl, rfl, rfl, trivial⟩
          · exact ⟨rfl, trivial⟩
        · refine DO.op rfl rfl rfl (fun k0 hk0 dk0 => OpR.buildSlice (cs := [_, _, _, _, _]) rfl rfl) ?_
          rintro _ _ ⟨b39, rfl, rfl⟩
          refine DJ.two (i := 2) (j := 7) (by kernel_rfl) ?_ ?_
          · refine DO.yd rfl rfl rfl (fun _ _ _ => Yd.loadC 1 rfl rfl rfl) ?_
            refine DJ.one (i := 7) (by kernel_rfl) ?_
            refine DO.call (pickF _ [1, 2, 3, 4]) (pickF _ [0]) rfl rfl rfl (perm_pickF _ [1, 2, 3, 4] [0] rfl) (fun k0 hk0 dk0 k hk dk => one_ok (l := [3, 2, 4, 1, 0]) (hcode.up) (LitAt.of (l := [3, 2, 4, 1, 0]) hk dk 3 rfl) (by simp) (by omega) (by omega)) ?_
            rintro _ _ ⟨x20, rfl, hx20, rfl⟩
            simp only [List.mem_cons, List.not_mem_nil, or_false] at hx20
            refine DJ.norm [_, _, _, _] [_, _, _, _, _] rfl rfl ?_
            refine DJ.one (i := 8) (by kernel_rfl) ?_
            refine DO.call (pickF _ [2, 3]) (pickF _ [4, 0, 1]) rfl rfl rfl (perm_pickF _ [2, 3] [4, 0, 1] rfl) (fun k0 hk0 dk0 k hk dk => grow_ok 5 _ _ _ _ _ _ _ _ _ [] _ _ _ _ _ hcode.up (by omega) (by omega) (by simp) (by simp) (by omega) (by omega) (by omega) (by omega) (by omega) (by omega) (by omega)) ?_
            rintro _ _ ⟨oK0, aK0, pK0, tK0, xK0, mK0, cK0, bK0, qK0, psK0, kaK0, kcK0, rfl, rfl, hqK0, hrK0, hlK0, hwK0, hzK0⟩
            refine DJ.norm [_, _, _, _] [_, _, _, _, _, _] rfl rfl ?_
            refine DJ.one (i := 10) (by kernel_rfl) ?_
            refine DO.store (v := .agg #[_, _, _, _, _]) (us := [_, _, _, _, _]) 0 rfl rfl rfl rfl rfl rfl rfl rfl rfl rfl ?_
            refine DJ.done (by kernel_rfl) ?_
            refine ⟨(b37, oK0, aK0, pK0, tK0, xK0, mK0, cK0, bK0, qK0, psK0, kaK0, kcK0), ?_, ?_, ?_, Ent.pick [0, 1, 6, 7, 8, 4, 9] [2, 3, 5] rfl⟩
            · exact ⟨by omega, by omega, hlK0, hwK0, by omega⟩
            · exact ⟨rfl, rfl, rfl, trivial⟩
            · exact ⟨rfl, trivial⟩
          · refine DO.call (pickF _ [1, 2, 3, 4]) (pickF _ [0]) rfl rfl rfl (perm_pickF _ [1, 2, 3, 4] [0] rfl) (fun k0 hk0 dk0 k hk dk => one_ok (l := [3, 2, 4, 1, 0]) (hcode.up) (LitAt.of (l := [3, 2, 4, 1, 0]) hk dk 3 rfl) (by simp) (by omega) (by omega)) ?_
            rintro _ _ ⟨x20, rfl, hx20, rfl⟩
            simp only [List.mem_cons, List.not_mem_nil, or_false] at hx20
            refine DJ.norm [_, _, _, _] [_, _, _, _, _] rfl rfl ?_
            refine DJ.one (i := 2) (by kernel_rfl) ?_
            refine DO.yd rfl rfl rfl (fun _ _ _ => Yd.loadC 0 rfl rfl rfl) ?_
            refine DJ.one (i := 8) (by kernel_rfl) ?_
            refine DO.call (pickF _ [2, 3]) (pickF _ [4, 0, 1]) rfl rfl rfl (perm_pickF _ [2, 3] [4, 0, 1] rfl) (fun k0 hk0 dk0 k hk dk => grow_ok 5 _ _ _ _ _ _ _ _ _ [] _ _ _ _ _ hcode.up (by omega) (by omega) (by simp) (by simp) (by omega) (by omega) (by omega) (by omega) (by omega) (by omega) (by omega)) ?_
            rintro _ _ ⟨oK0, aK0, pK0, tK0, xK0, mK0, cK0, bK0, qK0, psK0, kaK0, kcK0, rfl, rfl, hqK0, hrK0, hlK0, hwK0, hzK0⟩
            refine DJ.norm [_, _, _, _] [_, _, _, _, _, _] rfl rfl ?_
            refine DJ.one (i := 10) (by kernel_rfl) ?_
            refine DO.store (v := .agg #[_, _, _, _, _]) (us := [_, _, _, _, _]) 0 rfl rfl rfl rfl rfl rfl rfl rfl rfl rfl ?_
            refine DJ.done (by kernel_rfl) ?_
            refine ⟨(b37, oK0, aK0, pK0, tK0, xK0, mK0, cK0, bK0, qK0, psK0, kaK0, kcK0), ?_, ?_, ?_, Ent.pick [0, 1, 6, 7, 8, 4, 9] [2, 3, 5] rfl⟩
            · exact ⟨by omega, by omega, hlK0, hwK0, by omega⟩
            · exact ⟨rfl, rfl, rfl, trivial⟩
            · exact ⟨rfl, trivial⟩
    · refine DO.op rfl rfl rfl (fun k0 hk0 dk0 => OpR.buildSlice (cs := [_, _, _, _, _]) rfl rfl) ?_
      rintro _ _ ⟨b40, rfl, rfl⟩
      refine DJ.four (i := 2) (j := 4) (m := 7) (o := 9) (by kernel_rfl) ?_ ?_ ?_ ?_
      · refine DO.yd rfl rfl rfl (fun _ _ _ => Yd.loadC 1 rfl rfl rfl) ?_
        refine DJ.three (i := 4) (j := 7) (m := 9) (by kernel_rfl) ?_ ?_ ?_
        · refine DO.yd rfl rfl rfl (fun _ _ _ => Yd.loadC 1 rfl rfl rfl) ?_
          refine DJ.two (i := 7) (j := 9) (by kernel_rfl) ?_ ?_
          · refine DO.call (pickF _ [1, 2, 3]) (pickF _ [0]) rfl rfl rfl (perm_pickF _ [1, 2, 3] [0] rfl) (fun k0 hk0 dk0 k hk dk => one_ok (l := [3, 2, 4, 1, 0]) (hcode.up) (LitAt.of (l := [3, 2, 4, 1, 0]) hk dk 2 rfl) (by simp) (by omega) (by omega)) ?_
            rintro _ _ ⟨x20, rfl, hx20, rfl⟩
            simp only [List.mem_cons, List.not_mem_nil, or_false] at hx20
            refine DJ.norm [_, _, _, _] [_, _, _, _] rfl rfl ?_
            refine DJ.two (i := 8) (j := 9) (by kernel_rfl) ?_ ?_
            · refine DO.call (pickF _ [2]) (pickF _ [3, 0, 1]) rfl rfl rfl (perm_pickF _ [2] [3, 0, 1] rfl) (fun k0 hk0 dk0 k hk dk => grow_ok 5 _ _ _ _ _ _ _ _ _ [] _ _ _ _ _ hcode.up (by omega) (by omega) (by simp) (by simp) (by omega) (by omega) (by omega) (by omega) (by omega) (by omega) (by omega)) ?_
              rintro _ _ ⟨oK0, aK0, pK0, tK0, xK0, mK0, cK0, bK0, qK0, psK0, kaK0, kcK0, rfl, rfl, hqK0, hrK0, hlK0, hwK0, hzK0⟩
              refine DJ.norm [_, _, _, _] [_, _, _, _, _] rfl rfl ?_
              refine DJ.one (i := 9) (by kernel_rfl) ?_
              refine DO.alloc ([_, _, _, _, _] : List Value) rfl rfl rfl rfl (fun b41 => ?_)
              refine DJ.one (i := 10) (by kernel_rfl) ?_
              refine DO.store (v := .agg #[_, _, _, _, _]) (us := [_, _, _, _, _]) 5 rfl rfl rfl rfl rfl rfl rfl rfl rfl rfl ?_
              refine DJ.done (by kernel_rfl) ?_
              refine ⟨(b41, oK0, aK0, pK0, tK0, xK0, mK0, cK0, bK0, qK0, psK0, kaK0, kcK0), ?_, ?_, ?_, Ent.pick [0, 1, 5, 6, 7, 9, 8] [2, 3, 4] rfl⟩
              · exact ⟨by omega, by omega, hlK0, hwK0, by omega⟩
              · exact ⟨rfl, rfl, rfl, trivial⟩
              · exact ⟨rfl, trivial⟩
            · refine DO.alloc ([_, _, _, _, _] : List Value) rfl rfl rfl rfl (fun b42 => ?_)
              refine DJ.one (i := 8) (by kernel_rfl) ?_
              refine DO.call (pickF _ [2, 4]) (pickF _ [3, 0, 1]) rfl rfl rfl (perm_pickF _ [2, 4] [3, 0, 1] rfl) (fun k0 hk0 dk0 k hk dk => grow_ok 5 _ _ _ _ _ _ _ _ _ [] _ _ _ _ _ hcode.up (by omega) (by omega) (by simp) (by simp) (by omega) (by omega) (by omega) (by omega) (by omega) (by omega) (by omega)) ?_
              rintro _ _ ⟨oK0, aK0, pK0, tK0, xK0, mK0, cK0, bK0, qK0, psK0, kaK0, kcK0, rfl, rfl, hqK0, hrK0, hlK0, hwK0, hzK0⟩
              refine DJ.norm [_, _, _, _] [_, _, _, _, _, _] rfl rfl ?_
              refine DJ.one (i := 10) (by kernel_rfl) ?_
              refine DO.store (v := .agg #[_, _, _, _, _]) (us := [_, _, _, _, _]) 1 rfl rfl rfl rfl rfl rfl rfl rfl rfl rfl ?_
              refine DJ.done (by kernel_rfl) ?_
              refine ⟨(b42, oK0, aK0, pK0, tK0, xK0, mK0, cK0, bK0, qK0, psK0, kaK0, kcK0), ?_, ?_, ?_, Ent.pick [0, 1, 6, 7, 8, 5, 9] [2, 3, 4] rfl⟩
              · exact ⟨by omega, by omega, hlK0, hwK0, by omega⟩
              · exact ⟨rfl, rfl, rfl, trivial⟩
              · exact ⟨rfl, trivial⟩
          · refine DO.alloc ([_, _, _, _, _] : List Value) rfl rfl rfl rfl (fun b43 => ?_)
            refine DJ.one (i := 7) (by kernel_rfl) ?_
            refine DO.call (pickF _ [1, 2, 3, 4]) (pickF _ [0]) rfl rfl rfl (perm_pickF _ [1, 2, 3, 4] [0] rfl) (fun k0 hk0 dk0 k hk dk => one_ok (l := [3, 2, 4, 1, 0]) (hcode.up) (LitAt.of (l := [3, 2, 4, 1, 0]) hk dk 2 rfl) (by simp) (by omega) (by omega)) ?_
            rintro _ _ ⟨x20, rfl, hx20, rfl⟩
            simp only [List.mem_cons, List.not_mem_nil, or_false] at hx20
            refine DJ.norm [_, _, _, _] [_, _, _, _, _] rfl rfl ?_
            refine DJ.one (i := 8) (by kernel_rfl) ?_
            refine DO.call (pickF _ [2, 3]) (pickF _ [4, 0, 1]) rfl rfl rfl (perm_pickF _ [2, 3] [4, 0, 1] rfl) (fun k0 hk0 dk0 k hk dk => grow_ok 5 _ _ _ _ _ _ _ _ _ [] _ _ _ _ _ hcode.up (by omega) (by omega) (by simp) (by simp) (by omega) (by omega) (by omega) (by omega) (by omega) (by omega) (by omega)) ?_
            rintro _ _ ⟨oK0, aK0, pK0, tK0, xK0, mK0, cK0, bK0, qK0, psK0, kaK0, kcK0, rfl, rfl, hqK0, hrK0, hlK0, hwK0, hzK0⟩
            refine DJ.norm [_, _, _, _] [_, _, _, _, _, _] rfl rfl ?_
            refine DJ.one (i := 10) (by kernel_rfl) ?_
            refine DO.store (v := .agg #[_, _, _, _, _]) (us := [_, _, _, _, _]) 1 rfl rfl rfl rfl rfl rfl rfl rfl rfl rfl ?_
            refine DJ.done (by kernel_rfl) ?_
            refine ⟨(b43, oK0, aK0, pK0, tK0, xK0, mK0, cK0, bK0, qK0, psK0, kaK0, kcK0), ?_, ?_, ?_, Ent.pick [0, 1, 6, 7, 8, 5, 9] [2, 3, 4] rfl⟩
            · exact ⟨by omega, by omega, hlK0, hwK0, by omega⟩
            · exact ⟨rfl, rfl, rfl, trivial⟩
            · exact ⟨rfl, trivial⟩
        · refine DO.call (pickF _ [1, 2, 3]) (pickF _ [0]) rfl rfl rfl (perm_pickF _ [1, 2, 3] [0] rfl) (fun k0 hk0 dk0 k hk dk => one_ok (l := [3, 2, 4, 1, 0]) (hcode.up) (LitAt.of (l := [3, 2, 4, 1, 0]) hk dk 2 rfl) (by simp) (by omega) (by omega)) ?_
          rintro _ _ ⟨x20, rfl, hx20, rfl⟩
          simp only [List.mem_cons, List.not_mem_nil, or_false] at hx20
          refine DJ.norm [_, _, _, _] [_, _, _, _] rfl rfl ?_
          refine DJ.two (i := 4) (j := 9) (by kernel_rfl) ?_ ?_
          · refine DO.yd rfl rfl rfl (fun _ _ _ => Yd.loadC 0 rfl rfl rfl) ?_
            refine DJ.two (i := 8) (j := 9) (by kernel_rfl) ?_ ?_
            · refine DO.call (pickF _ [2]) (pickF _ [3, 0, 1]) rfl rfl rfl (perm_pickF _ [2] [3, 0, 1] rfl) (fun k0 hk0 dk0 k hk dk => grow_ok 5 _ _ _ _ _ _ _ _ _ [] _ _ _ _ _ hcode.up (by omega) (by omega) (by simp) (by simp) (by omega) (by omega) (by omega) (by omega) (by omega) (by omega) (by omega)) ?_
              rintro _ _ ⟨oK0, aK0, pK0, tK0, xK0, mK0, cK0, bK0, qK0, psK0, kaK0, kcK0, rfl, rfl, hqK0, hrK0, hlK0, hwK0, hzK0⟩
              refine DJ.norm [_, _, _, _] [_, _, _, _, _] rfl rfl ?_
              refine DJ.one (i := 9) (by kernel_rfl) ?_
              refine DO.alloc ([_, _, _, _, _] : List Value) rfl rfl rfl rfl (fun b44 => ?_)
              refine DJ.one (i := 10) (by kernel_rfl) ?_
              refine DO.store (v := .agg #[_, _, _, _, _]) (us := [_, _, _, _, _]) 5 rfl rfl rfl rfl rfl rfl rfl rfl rfl rfl ?_
              refine DJ.done (by kernel_rfl) ?_
              refine ⟨(b44, oK0, aK0, pK0, tK0, xK0, mK0, cK0, bK0, qK0, psK0, kaK0, kcK0), ?_, ?_, ?_, Ent.pick [0, 1, 5, 6, 7, 9, 8] [2, 3, 4] rfl⟩
              · exact ⟨by omega, by omega, hlK0, hwK0, by omega⟩
              · exact ⟨rfl, rfl, rfl, trivial⟩
              · exact ⟨rfl, trivial⟩
            · refine DO.alloc ([_, _, _, _, _] : List Value) rfl rfl rfl rfl (fun b45 => ?_)
              refine DJ.one (i := 8) (by kernel_rfl) ?_
              refine DO.call (pickF _ [2, 4]) (pickF _ [3, 0, 1]) rfl rfl rfl (perm_pickF _ [2, 4] [3, 0, 1] rfl) (fun k0 hk0 dk0 k hk dk => grow_ok 5 _ _ _ _ _ _ _ _ _ [] _ _ _ _ _ hcode.up (by omega) (by omega) (by simp) (by simp) (by omega) (by omega) (by omega) (by omega) (by omega) (by omega) (by omega)) ?_
              rintro _ _ ⟨oK0, aK0, pK0, tK0, xK0, mK0, cK0, bK0, qK0, psK0, kaK0, kcK0, rfl, rfl, hqK0, hrK0, hlK0, hwK0, hzK0⟩
              refine DJ.norm [_, _, _, _] [_, _, _, _, _, _] rfl rfl ?_
              refine DJ.one (i := 10) (by kernel_rfl) ?_
              refine DO.store (v := .agg #[_, _, _, _, _]) (us := [_, _, _, _, _]) 1 rfl rfl rfl rfl rfl rfl rfl rfl rfl rfl ?_
              refine DJ.done (by kernel_rfl) ?_
              refine ⟨(b45, oK0, aK0, pK0, tK0, xK0, mK0, cK0, bK0, qK0, psK0, kaK0, kcK0), ?_, ?_, ?_, Ent.pick [0, 1, 6, 7, 8, 5, 9] [2, 3, 4] rfl⟩
              · exact ⟨by omega, by omega, hlK0, hwK0, by omega⟩
              · exact ⟨rfl, rfl, rfl, trivial⟩
              · exact ⟨rfl, trivial⟩
          · refine DO.alloc ([_, _, _, _, _] : List Value) rfl rfl rfl rfl (fun b46 => ?_)
            refine DJ.one (i := 4) (by kernel_rfl) ?_
            refine DO.yd rfl rfl rfl (fun _ _ _ => Yd.loadC 0 rfl rfl rfl) ?_
            refine DJ.one (i := 8) (by kernel_rfl) ?_
            refine DO.call (pickF _ [2, 4]) (pickF _ [3, 0, 1]) rfl rfl rfl (perm_pickF _ [2, 4] [3, 0, 1] rfl) (fun k0 hk0 dk0 k hk dk => grow_ok 5 _ _ _ _ _ _ _ _ _ [] _ _ _ _ _ hcode.up (by omega) (by omega) (by simp) (by simp) (by omega) (by omega) (by omega) (by omega) (by omega) (by omega) (by omega)) ?_
            rintro _ _ ⟨oK0, aK0, pK0, tK0, xK0, mK0, cK0, bK0, qK0, psK0, kaK0, kcK0, rfl, rfl, hqK0, hrK0, hlK0, hwK0, hzK0⟩
            refine DJ.norm [_, _, _, _] [_, _, _, _, _, _] rfl rfl ?_
            refine DJ.one (i := 10) (by kernel_rfl) ?_
            refine DO.store (v := .agg #[_, _, _, _, _]) (us := [_, _, _, _, _]) 1 rfl rfl rfl rfl rfl rfl rfl rfl rfl rfl ?_
            refine DJ.done (by kernel_rfl) ?_
            refine ⟨(b46, oK0, aK0, pK0, tK0, xK0, mK0, cK0, bK0, qK0, psK0, kaK0, kcK0), ?_, ?_, ?_, Ent.pick [0, 1, 6, 7, 8, 5, 9] [2, 3, 4] rfl⟩
            · exact ⟨by omega, by omega, hlK0, hwK0, by omega⟩
            · exact ⟨rfl, rfl, rfl, trivial⟩
            · exact ⟨rfl, trivial⟩
        · refine DO.alloc ([_, _, _, _, _] : List Value) rfl rfl rfl rfl (fun b47 => ?_)
          refine DJ.two (i := 4) (j := 7) (by kernel_rfl) ?_ ?_
          · refine DO.yd rfl rfl rfl (fun _ _ _ => Yd.loadC 1 rfl rfl rfl) ?_
            refine DJ.one (i := 7) (by kernel_rfl) ?_
            refine DO.call (pickF _ [1, 2, 3, 4]) (pickF _ [0]) rfl rfl rfl (perm_pickF _ [1, 2, 3, 4] [0] rfl) (fun k0 hk0 dk0 k hk dk => one_ok (l := [3, 2, 4, 1, 0]) (hcode.up) (LitAt.of (l := [3, 2, 4, 1, 0]) hk dk 2 rfl) (by simp) (by omega) (by omega)) ?_
            rintro _ _ ⟨x20, rfl, hx20, rfl⟩
            simp only [List.mem_cons, List.not_mem_nil, or_false] at hx20
            refine DJ.norm [_, _, _, _] [_, _, _, _, _] rfl rfl ?_
            refine DJ.one (i := 8) (by kernel_rfl) ?_
            refine DO.call (pickF _ [2, 3]) (pickF _ [4, 0, 1]) rfl rfl rfl (perm_pickF _ [2, 3] [4, 0, 1] rfl) (fun k0 hk0 dk0 k hk dk => grow_ok 5 _ _ _ _ _ _ _ _ _ [] _ _ _ _ _ hcode.up (by omega) (by omega) (by simp) (by simp) (by omega) (by omega) (by omega) (by omega) (by omega) (by omega) (by omega)) ?_
            rintro _ _ ⟨oK0, aK0, pK0, tK0, xK0, mK0, cK0, bK0, qK0, psK0, kaK0, kcK0, rfl, rfl, hqK0, hrK0, hlK0, hwK0, hzK0⟩
            refine DJ.norm [_, _, _, _] [_, _, _, _, _, _] rfl rfl ?_
            refine DJ.one (i := 10) (by kernel_rfl) ?_
            refine DO.store (v := .agg #[_, _, _, _, _]) (us := [_, _, _, _, _]) 1 rfl rfl rfl rfl rfl rfl rfl rfl rfl rfl ?_
            refine DJ.done (by kernel_rfl) ?_
            refine ⟨(b47, oK0, aK0, pK0, tK0, xK0, mK0, cK0, bK0, qK0, psK0, kaK0, kcK0), ?_, ?_, ?_, Ent.pick [0, 1, 6, 7, 8, 5, 9] [2, 3, 4] rfl⟩
            · exact ⟨by omega, by omega, hlK0, hwK0, by omega⟩
            · exact ⟨rfl, rfl, rfl, trivial⟩
            · exact ⟨rfl, trivial⟩
          · refine DO.call (pickF _ [1, 2, 3, 4]) (pickF _ [0]) rfl rfl rfl (perm_pickF _ [1, 2, 3, 4] [0] rfl) (fun k0 hk0 dk0 k hk dk => one_ok (l := [3, 2, 4, 1, 0]) (hcode.up) (LitAt.of (l := [3, 2, 4, 1, 0]) hk dk 2 rfl) (by simp) (by omega) (by omega)) ?_
            rintro _ _ ⟨x20, rfl, hx20, rfl⟩
            simp only [List.mem_cons, List.not_mem_nil, or_false] at hx20
            refine DJ.norm [_, _, _, _] [_, _, _, _, _] rfl rfl ?_
            refine DJ.one (i := 4) (by kernel_rfl) ?_
            refine DO.yd rfl rfl rfl (fun _ _ _ => Yd.loadC 0 rfl rfl rfl) ?_
            refine DJ.one (i := 8) (by kernel_rfl) ?_
            refine DO.call (pickF _ [2, 3]) (pickF _ [4, 0, 1]) rfl rfl rfl (perm_pickF _ [2, 3] [4, 0, 1] rfl) (fun k0 hk0 dk0 k hk dk => grow_ok 5 _ _ _ _ _ _ _ _ _ [] _ _ _ _ _ hcode.up (by omega) (by omega) (by simp) (by simp) (by omega) (by omega) (by omega) (by omega) (by omega) (by omega) (by omega)) ?_
            rintro _ _ ⟨oK0, aK0, pK0, tK0, xK0, mK0, cK0, bK0, qK0, psK0, kaK0, kcK0, rfl, rfl, hqK0, hrK0, hlK0, hwK0, hzK0⟩
            refine DJ.norm [_, _, _, _] [_, _, _, _, _, _] rfl rfl ?_
            refine DJ.one (i := 10) (by kernel_rfl) ?_
            refine DO.store (v := .agg #[_, _, _, _, _]) (us := [_, _, _, _, _]) 1 rfl rfl rfl rfl rfl rfl rfl rfl rfl rfl ?_
            refine DJ.done (by kernel_rfl) ?_
            refine ⟨(b47, oK0, aK0, pK0, tK0, xK0, mK0, cK0, bK0, qK0, psK0, kaK0, kcK0), ?_, ?_, ?_, Ent.pick [0, 1, 6, 7, 8, 5, 9] [2, 3, 4] rfl⟩
            · exact ⟨by omega, by omega, hlK0, hwK0, by omega⟩
            · exact ⟨rfl, rfl, rfl, trivial⟩
            · exact ⟨rfl, trivial⟩
      · refine DO.yd rfl rfl rfl (fun _ _ _ => Yd.loadC 1 rfl rfl rfl) ?_
        refine DJ.three (i := 2) (j := 7) (m := 9) (by kernel_rfl) ?_ ?_ ?_
        · refine DO.yd rfl rfl rfl (fun _ _ _ => Yd.loadC 1 rfl rfl rfl) ?_
          refine DJ.two (i := 7) (j := 9) (by kernel_rfl) ?_ ?_
          · refine DO.call (pickF _ [1, 2, 3]) (pickF _ [0]) rfl rfl rfl (perm_pickF _ [1, 2, 3] [0] rfl) (fun k0 hk0 dk0 k hk dk => one_ok (l := [3, 2, 4, 1, 0]) (hcode.up) (LitAt.of (l := [3, 2, 4, 1, 0]) hk dk 2 rfl) (by simp) (by omega) (by omega)) ?_
            rintro _ _ ⟨x20, rfl, hx20, rfl⟩
            simp only [List.mem_cons, List.not_mem_nil, or_false] at hx20
            refine DJ.norm [_, _, _, _] [_, _, _, _] rfl rfl ?_
            refine DJ.two (i := 8) (j := 9) (by kernel_rfl) ?_ ?_
            · refine DO.call (pickF _ [2]) (pickF _ [3, 0, 1]) rfl rfl rfl (perm_pickF _ [2] [3, 0, 1] rfl) (fun k0 hk0 dk0 k hk dk => grow_ok 5 _ _ _ _ _ _ _ _ _ [] _ _ _ _ _ hcode.up (by omega) (by omega) (by simp) (by simp) (by omega) (by omega) (by omega) (by omega) (by omega) (by omega) (by omega)) ?_
              rintro _ _ ⟨oK0, aK0, pK0, tK0, xK0, mK0, cK0, bK0, qK0, psK0, kaK0, kcK0, rfl, rfl, hqK0, hrK0, hlK0, hwK0, hzK0⟩
              refine DJ.norm [_, _, _, _] [_, _, _, _, _] rfl rfl ?_
              refine DJ.one (i := 9) (by kernel_rfl) ?_
              refine DO.alloc ([_, _, _, _, _] : List Value) rfl rfl rfl rfl (fun b48 => ?_)
              refine DJ.one (i := 10) (by kernel_rfl) ?_
              refine DO.store (v := .agg #[_, _, _, _, _]) (us := [_, _, _, _, _]) 5 rfl rfl rfl rfl rfl rfl rfl rfl rfl rfl ?_
              refine DJ.done (by kernel_rfl) ?_
              refine ⟨(b48, oK0, aK0, pK0, tK0, xK0, mK0, cK0, bK0, qK0, psK0, kaK0, kcK0), ?_, ?_, ?_, Ent.pick [0, 1, 5, 6, 7, 9, 8] [2, 3, 4] rfl⟩
              · exact ⟨by omega, by omega, hlK0, hwK0, by omega⟩
              · exact ⟨rfl, rfl, rfl, trivial⟩
              · exact ⟨rfl, trivial⟩
            · refine DO.alloc ([_, _, _, _, _] : List Value) rfl rfl rfl rfl (fun b49 => ?_)
              refine DJ.one (i := 8) (by kernel_rfl) ?_
              refine DO.call (pickF _ [2, 4]) (pickF _ [3, 0, 1]) rfl rfl rfl (perm_pickF _ [2, 4] [3, 0, 1] rfl) (fun k0 hk0 dk0 k hk dk => grow_ok 5 _ _ _ _ _ _ _ _ _ [] _ _ _ _ _ hcode.up (by omega) (by omega) (by simp) (by simp) (by omega) (by omega) (by omega) (by omega) (by omega) (by omega) (by omega)) ?_
              rintro _ _ ⟨oK0, aK0, pK0, tK0, xK0, mK0, cK0, bK0, qK0, psK0, kaK0, kcK0, rfl, rfl, hqK0, hrK0, hlK0, hwK0, hzK0⟩
              refine DJ.norm [_, _, _, _] [_, _, _, _, _, _] rfl rfl ?_
              refine DJ.one (i := 10) (by kernel_rfl) ?_
              refine DO.store (v := .agg #[_, _, _, _, _]) (us := [_, _, _, _, _]) 1 rfl rfl rfl rfl rfl rfl rfl rfl rfl rfl ?_
              refine DJ.done (by kernel_rfl) ?_
              refine ⟨(b49, oK0, aK0, pK0, tK0, xK0, mK0, cK0, bK0, qK0, psK0, kaK0, kcK0), ?_, ?_, ?_, Ent.pick [0, 1, 6, 7, 8, 5, 9] [2, 3, 4] rfl⟩
              · exact ⟨by omega, by omega, hlK0, hwK0, by omega⟩
              · exact ⟨rfl, rfl, rfl, trivial⟩
              · exact ⟨rfl, trivial⟩
          · refine DO.alloc ([_, _, _, _, _] : List Value) rfl rfl rfl rfl (fun b50 => ?_)
            refine DJ.one (i := 7) (by kernel_rfl) ?_
            refine DO.call (pickF _ [1, 2, 3, 4]) (pickF _ [0]) rfl rfl rfl (perm_pickF _ [1, 2, 3, 4] [0] rfl) (fun k0 hk0 dk0 k hk dk => one_ok (l := [3, 2, 4, 1, 0]) (hcode.up) (LitAt.of (l := [3, 2, 4, 1, 0]) hk dk 2 rfl) (by simp) (by omega) (by omega)) ?_
            rintro _ _ ⟨x20, rfl, hx20, rfl⟩
            simp only [List.mem_cons, List.not_mem_nil, or_false] at hx20
            refine DJ.norm [_, _, _, _] [_, _, _, _, _] rfl rfl ?_
            refine DJ.one (i := 8) (by kernel_rfl) ?_
            refine DO.call (pickF _ [2, 3]) (pickF _ [4, 0, 1]) rfl rfl rfl (perm_pickF _ [2, 3] [4, 0, 1] rfl) (fun k0 hk0 dk0 k hk dk => grow_ok 5 _ _ _ _ _ _ _ _ _ [] _ _ _ _ _ hcode.up (by omega) (by omega) (by simp) (by simp) (by omega) (by omega) (by omega) (by omega) (by omega) (by omega) (by omega)) ?_
            rintro _ _ ⟨oK0, aK0, pK0, tK0, xK0, mK0, cK0, bK0, qK0, psK0, kaK0, kcK0, rfl, rfl, hqK0, hrK0, hlK0, hwK0, hzK0⟩
            refine DJ.norm [_, _, _, _] [_, _, _, _, _, _] rfl rfl ?_
            refine DJ.one (i := 10) (by kernel_rfl) ?_
            refine DO.store (v := .agg #[_, _, _, _, _]) (us := [_, _, _, _, _]) 1 rfl rfl rfl rfl rfl rfl rfl rfl rfl rfl ?_
            refine DJ.done (by kernel_rfl) ?_
            refine ⟨(b50, oK0, aK0, pK0, tK0, xK0, mK0, cK0, bK0, qK0, psK0, kaK0, kcK0), ?_, ?_, ?_, Ent.pick [0, 1, 6, 7, 8, 5, 9] [2, 3, 4] rfl⟩
            · exact ⟨by omega, by omega, hlK0, hwK0, by omega⟩
            · exact ⟨rfl, rfl, rfl, trivial⟩
            · exact ⟨rfl, trivial⟩
        · refine DO.call (pickF _ [1, 2, 3]) (pickF _ [0]) rfl rfl rfl (perm_pickF _ [1, 2, 3] [0] rfl) (fun k0 hk0 dk0 k hk dk => one_ok (l := [3, 2, 4, 1, 0]) (hcode.up) (LitAt.of (l := [3, 2, 4, 1, 0]) hk dk 2 rfl) (by simp) (by omega) (by omega)) ?_
          rintro _ _ ⟨x20, rfl, hx20, rfl⟩
          simp only [List.mem_cons, List.not_mem_nil, or_false] at hx20
          refine DJ.norm [_, _, _, _] [_, _, _, _] rfl rfl ?_
          refine DJ.two (i := 2) (j := 9) (by kernel_rfl) ?_ ?_
          · refine DO.yd rfl rfl rfl (fun _ _ _ => Yd.loadC 0 rfl rfl rfl) ?_
            refine DJ.two (i := 8) (j := 9) (by kernel_rfl) ?_ ?_
            · refine DO.call (pickF _ [2]) (pickF _ [3, 0, 1]) rfl rfl rfl (perm_pickF _ [2] [3, 0, 1] rfl) (fun k0 hk0 dk0 k hk dk => grow_ok 5 _ _ _ _ _ _ _ _ _ [] _ _ _ _ _ hcode.up (by omega) (by omega) (by simp) (by simp) (by omega) (by omega) (by omega) (by omega) (by omega) (by omega) (by omega)) ?_
              rintro _ _ ⟨oK0, aK0, pK0, tK0, xK0, mK0, cK0, bK0, qK0, psK0, kaK0, kcK0, rfl, rfl, hqK0, hrK0, hlK0, hwK0, hzK0⟩
              refine DJ.norm [_, _, _, _] [_, _, _, _, _] rfl rfl ?_
              refine DJ.one (i := 9) (by kernel_rfl) ?_
              refine DO.alloc ([_, _, _, _, _] : List Value) rfl rfl rfl rfl (fun b51 => ?_)
              refine DJ.one (i := 10) (by kernel_rfl) ?_
              refine DO.store (v := .agg #[_, _, _, _, _]) (us := [_, _, _, _, _]) 5 rfl rfl rfl rfl rfl rfl rfl rfl rfl rfl ?_
              refine DJ.done (by kernel_rfl) ?_
              refine ⟨(b51, oK0, aK0, pK0, tK0, xK0, mK0, cK0, bK0, qK0, psK0, kaK0, kcK0), ?_, ?_, ?_, Ent.pick [0, 1, 5, 6, 7, 9, 8] [2, 3, 4] rfl⟩
              · exact ⟨by omega, by omega, hlK0, hwK0, by omega⟩
              · exact ⟨rfl, rfl, rfl, trivial⟩
              · exact ⟨rfl, trivial⟩
            · refine DO.alloc ([_, _, _, _, _] : List Value) rfl rfl rfl rfl (fun b52 => ?_)
              refine DJ.one (i := 8) (by kernel_rfl) ?_
              refine DO.call (pickF _ [2, 4]) (pickF _ [3, 0, 1]) rfl rfl rfl (perm_pickF _ [2, 4] [3, 0, 1] rfl) (fun k0 hk0 dk0 k hk dk => grow_ok 5 _ _ _ _ _ _ _ _ _ [] _ _ _ _ _ hcode.up (by omega) (by omega) (by simp) (by simp) (by omega) (by omega) (by omega) (by omega) (by omega) (by omega) (by omega)) ?_
              rintro _ _ ⟨oK0, aK0, pK0, tK0, xK0, mK0, cK0, bK0, qK0, psK0, kaK0, kcK0, rfl, rfl, hqK0, hrK0, hlK0, hwK0, hzK0⟩
              refine DJ.norm [_, _, _, _] [_, _, _, _, _, _] rfl rfl ?_
              refine DJ.one (i := 10) (by kernel_rfl) ?_
              refine DO.store (v := .agg #[_, _, _, _, _]) (us := [_, _, _, _, _]) 1 rfl rfl rfl rfl rfl rfl rfl rfl rfl rfl ?_
              refine DJ.done (by kernel_rfl) ?_
              refine ⟨(b52, oK0, aK0, pK0, tK0, xK0, mK0, cK0, bK0, qK0, psK0, kaK0, kcK0), ?_, ?_, ?_, Ent.pick [0, 1, 6, 7, 8, 5, 9] [2, 3, 4] rfl⟩
              · exact ⟨by omega, by omega, hlK0, hwK0, by omega⟩
              · exact ⟨rfl, rfl, rfl, trivial⟩
              · exact ⟨rfl, trivial⟩
          · refine DO.alloc ([_, _, _, _, _] : List Value) rfl rfl rfl rfl (fun b53 => ?_)
            refine DJ.one (i := 2) (by kernel_rfl) ?_
            refine DO.yd rfl rfl rfl (fun _ _ _ => Yd.loadC 0 rfl rfl rfl) ?_
            refine DJ.one (i := 8) (by kernel_rfl) ?_
            refine DO.call (pickF _ [2, 4]) (pickF _ [3, 0, 1]) rfl rfl rfl (perm_pickF _ [2, 4] [3, 0, 1] rfl) (fun k0 hk0 dk0 k hk dk => grow_ok 5 _ _ _ _ _ _ _ _ _ [] _ _ _ _ _ hcode.up (by omega) (by omega) (by simp) (by simp) (by omega) (by omega) (by omega) (by omega) (by omega) (by omega) (by omega)) ?_
            rintro _ _ ⟨oK0, aK0, pK0, tK0, xK0, mK0, cK0, bK0, qK0, psK0, kaK0, kcK0, rfl, rfl, hqK0, hrK0, hlK0, hwK0, hzK0⟩
            refine DJ.norm [_, _, _, _] [_, _, _, _, _, _] rfl rfl ?_
            refine DJ.one (i := 10) (by kernel_rfl) ?_
            refine DO.store (v := .agg #[_, _, _, _, _]) (us := [_, _, _, _, _]) 1 rfl rfl rfl rfl rfl rfl rfl rfl rfl rfl ?_
            refine DJ.done (by kernel_rfl) ?_
            refine ⟨(b53, oK0, aK0, pK0, tK0, xK0, mK0, cK0, bK0, qK0, psK0, kaK0, kcK0), ?_, ?_, ?_, Ent.pick [0, 1, 6, 7, 8, 5, 9] [2, 3, 4] rfl⟩
            · exact ⟨by omega, by omega, hlK0, hwK0, by omega⟩
            · exact ⟨rfl, rfl, rfl, trivial⟩
            · exact ⟨rfl, trivial⟩
        · refine DO.alloc ([_, _, _, _, _] : List Value) rfl rfl rfl rfl (fun b54 => ?_)
          refine DJ.two (i := 2) (j := 7) (by kernel_rfl) ?_ ?_
          · refine DO.yd rfl rfl rfl (fun _ _ _ => Yd.loadC 1 rfl rfl rfl) ?_
            refine DJ.one (i := 7) (by kernel_rfl) ?_
            refine DO.call (pickF _ [1, 2, 3, 4]) (pickF _ [0]) rfl rfl rfl (perm_pickF _ [1, 2, 3, 4] [0] rfl) (fun k0 hk0 dk0 k hk dk => one_ok (l := [3, 2, 4, 1, 0]) (hcode.up) (LitAt.of (l := [3, 2, 4, 1, 0]) hk dk 2 rfl) (by simp) (by omega) (by omega)) ?_
            rintro _ _ ⟨x20, rfl, hx20, rfl⟩
            simp only [List.mem_cons, List.not_mem_nil, or_false] at hx20
            refine DJ.norm [_, _, _, _] [_, _, _, _, _] rfl rfl ?_
            refine DJ.one (i := 8) (by kernel_rfl) ?_
            refine DO.call (pickF _ [2, 3]) (pickF _ [4, 0, 1]) rfl rfl rfl (perm_pickF _ [2, 3] [4, 0, 1] rfl) (fun k0 hk0 dk0 k hk dk => grow_ok 5 _ _ _ _ _ _ _ _ _ [] _ _ _ _ _ hcode.up (by omega) (by omega) (by simp) (by simp) (by omega) (by omega) (by omega) (by omega) (by omega) (by omega) (by omega)) ?_
            rintro _ _ ⟨oK0, aK0, pK0, tK0, xK0, mK0, cK0, bK0, qK0, psK0, kaK0, kcK0, rfl, rfl, hqK0, hrK0, hlK0, hwK0, hzK0⟩
            refine DJ.norm [_, _, _, _] [_, _, _, _, _, _] rfl rfl ?_
            refine DJ.one (i := 10) (by kernel_rfl) ?_
            refine DO.store (v := .agg #[_, _, _, _, _]) (us := [_, _, _, _, _]) 1 rfl rfl rfl rfl rfl rfl rfl rfl rfl rfl ?_
            refine DJ.done (by kernel_rfl) ?_
            refine ⟨(b54, oK0, aK0, pK0, tK0, xK0, mK0, cK0, bK0, qK0, psK0, kaK0, kcK0), ?_, ?_, ?_, Ent.pick [0, 1, 6, 7, 8, 5, 9] [2, 3, 4] rfl⟩
            · exact ⟨by omega, by omega, hlK0, hwK0, by omega⟩
            · exact ⟨rfl, rfl, rfl, trivial⟩
            · exact ⟨rfl, trivial⟩
          · refine DO.call (pickF _ [1, 2, 3, 4]) (pickF _ [0]) rfl rfl rfl (perm_pickF _ [1, 2, 3, 4] [0] rfl) (fun k0 hk0 dk0 k hk dk => one_ok (l := [3, 2, 4, 1, 0]) (hcode.up) (LitAt.of (l := [3, 2, 4, 1, 0]) hk dk 2 rfl) (by simp) (by omega) (by omega)) ?_
            rintro _ _ ⟨x20, rfl, hx20, rfl⟩
            simp only [List.mem_cons, List.not_mem_nil, or_false] at hx20
            refine DJ.norm [_, _, _, _] [_, _, _, _, _] rfl rfl ?_
            refine DJ.one (i := 2) (by kernel_rfl) ?_
            refine DO.yd rfl rfl rfl (fun _ _ _ => Yd.loadC 0 rfl rfl rfl) ?_
            refine DJ.one (i := 8) (by kernel_rfl) ?_
            refine DO.call (pickF _ [2, 3]) (pickF _ [4, 0, 1]) rfl rfl rfl (perm_pickF _ [2, 3] [4, 0, 1] rfl) (fun k0 hk0 dk0 k hk dk => grow_ok 5 _ _ _ _ _ _ _ _ _ [] _ _ _ _ _ hcode.up (by omega) (by omega) (by simp) (by simp) (by omega) (by omega) (by omega) (by omega) (by omega) (by omega) (by omega)) ?_
            rintro _ _ ⟨oK0, aK0, pK0, tK0, xK0, mK0, cK0, bK0, qK0, psK0, kaK0, kcK0, rfl, rfl, hqK0, hrK0, hlK0, hwK0, hzK0⟩
            refine DJ.norm [_, _, _, _] [_, _, _, _, _, _] rfl rfl ?_
            refine DJ.one (i := 10) (by kernel_rfl) ?_
            refine DO.store (v := .agg #[_, _, _, _, _]) (us := [_, _, _, _, _]) 1 rfl rfl rfl rfl rfl rfl rfl rfl rfl rfl ?_
            refine DJ.done (by kernel_rfl) ?_
            refine ⟨(b54, oK0, aK0, pK0, tK0, xK0, mK0, cK0, bK0, qK0, psK0, kaK0, kcK0), ?_, ?_, ?_, Ent.pick [0, 1, 6, 7, 8, 5, 9] [2, 3, 4] rfl⟩
            · exact ⟨by omega, by omega, hlK0, hwK0, by omega⟩
            · exact ⟨rfl, rfl, rfl, trivial⟩
            · exact ⟨rfl, trivial⟩
      · refine DO.call (pickF _ [1, 2, 3]) (pickF _ [0]) rfl rfl rfl (perm_pickF _ [1, 2, 3] [0] rfl) (fun k0 hk0 dk0 k hk dk => one_ok (l := [3, 2, 4, 1, 0]) (hcode.up) (LitAt.of (l := [3, 2, 4, 1, 0]) hk dk 2 rfl) (by simp) (by omega) (by omega)) ?_
        rintro _ _ ⟨x20, rfl, hx20, rfl⟩
        simp only [List.mem_cons, List.not_mem_nil, or_false] at hx20
        refine DJ.norm [_, _, _, _] [_, _, _, _] rfl rfl ?_
        refine DJ.three (i := 2) (j := 4) (m := 9) (by kernel_rfl) ?_ ?_ ?_
        · refine DO.yd rfl rfl rfl (fun _ _ _ => Yd.loadC 0 rfl rfl rfl) ?_
          refine DJ.two (i := 4) (j := 9) (by kernel_rfl) ?_ ?_
          · refine DO.yd rfl rfl rfl (fun _ _ _ => Yd.loadC 0 rfl rfl rfl) ?_
            refine DJ.two (i := 8) (j := 9) (by kernel_rfl) ?_ ?_
            · refine DO.call (pickF _ [2]) (pickF _ [3, 0, 1]) rfl rfl rfl (perm_pickF _ [2] [3, 0, 1] rfl) (fun k0 hk0 dk0 k hk dk => grow_ok 5 _ _ _ _ _ _ _ _ _ [] _ _ _ _ _ hcode.up (by omega) (by omega) (by simp) (by simp) (by omega) (by omega) (by omega) (by omega) (by omega) (by omega) (by omega)) ?_
              rintro _ _ ⟨oK0, aK0, pK0, tK0, xK0, mK0, cK0, bK0, qK0, psK0, kaK0, kcK0, rfl, rfl, hqK0, hrK0, hlK0, hwK0, hzK0⟩
              refine DJ.norm [_, _, _, _] [_, _, _, _, _] rfl rfl ?_
              refine DJ.one (i := 9) (by kernel_rfl) ?_
              refine DO.alloc ([_, _, _, _, _] : List Value) rfl rfl rfl rfl (fun b55 => ?_)
              refine DJ.one (i := 10) (by kernel_rfl) ?_
              refine DO.store (v := .agg #[_, _, _, _, _]) (us := [_, _, _, _, _]) 5 rfl rfl rfl rfl rfl rfl rfl rfl rfl rfl ?_
              refine DJ.done (by kernel_rfl) ?_
              refine ⟨(b55, oK0, aK0, pK0, tK0, xK0, mK0, cK0, bK0, qK0, psK0, kaK0, kcK0), ?_, ?_, ?_, Ent.pick [0, 1, 5, 6, 7, 9, 8] [2, 3, 4] rfl⟩
              · exact ⟨by omega, by omega, hlK0, hwK0, by omega⟩
              · exact ⟨rfl, rfl, rfl, trivial⟩
              · exact ⟨rfl, trivial⟩
            · refine DO.alloc ([_, _, _, _, _] : List Value) rfl rfl rfl rfl (fun b56 => ?_)
              refine DJ.one (i := 8) (by kernel_rfl) ?_
              refine DO.call (pickF _ [2, 4]) (pickF _ [3, 0, 1]) rfl rfl rfl (perm_pickF _ [2, 4] [3, 0, 1] rfl) (fun k0 hk0 dk0 k hk dk => grow_ok 5 _ _ _ _ _ _ _ _ _ [] _ _ _ _ _ hcode.up (by omega) (by omega) (by simp) (by simp) (by omega) (by omega) (by omega) (by omega) (by omega) (by omega) (by omega)) ?_
              rintro _ _ ⟨oK0, aK0, pK0, tK0, xK0, mK0, cK0, bK0, qK0, psK0, kaK0, kcK0, rfl, rfl, hqK0, hrK0, hlK0, hwK0, hzK0⟩
              refine DJ.norm [_, _, _, _] [_, _, _, _, _, _] rfl rfl ?_
              refine DJ.one (i := 10) (by kernel_rfl) ?_
              refine DO.store (v := .agg #[_, _, _, _, _]) (us := [_, _, _, _, _]) 1 rfl rfl rfl rfl rfl rfl rfl rfl rfl rfl ?_
              refine DJ.done (by kernel_rfl) ?_
              refine ⟨(b56, oK0, aK0, pK0, tK0, xK0, mK0, cK0, bK0, qK0, psK0, kaK0, kcK0), ?_, ?_, ?_, Ent.pick [0, 1, 6, 7, 8, 5, 9] [2, 3, 4] rfl⟩
              · exact ⟨by omega, by omega, hlK0, hwK0, by omega⟩
              · exact ⟨rfl, rfl, rfl, trivial⟩
              · exact ⟨rfl, trivial⟩
          · refine DO.alloc ([_, _, _, _, _] : List Value) rfl rfl rfl rfl (fun b57 => ?_)
            refine DJ.one (i := 4) (by kernel_rfl) ?_
            refine DO.yd rfl rfl rfl (fun _ _ _ => Yd.loadC 0 rfl rfl rfl) ?_
            refine DJ.one (i := 8) (by kernel_rfl) ?_
            refine DO.call (pickF _ [2, 4]) (pickF _ [3, 0, 1]) rfl rfl rfl (perm_pickF _ [2, 4] [3, 0, 1] rfl) (fun k0 hk0 dk0 k hk dk => grow_ok 5 _ _ _ _ _ _ _ _ _ [] _ _ _ _ _ hcode.up (by omega) (by omega) (by simp) (by simp) (by omega) (by omega) (by omega) (by omega) (by omega) (by omega) (by omega)) ?_
            rintro _ _ ⟨oK0, aK0, pK0, tK0, xK0, mK0, cK0, bK0, qK0, psK0, kaK0, kcK0, rfl, rfl, hqK0, hrK0, hlK0, hwK0, hzK0⟩
            refine DJ.norm [_, _, _, _] [_, _, _, _, _, _] rfl rfl ?_
            refine DJ.one (i := 10) (by kernel_rfl) ?_
            refine DO.store (v := .agg #[_, _, _, _, _]) (us := [_, _, _, _, _]) 1 rfl rfl rfl rfl rfl rfl rfl rfl rfl rfl ?_
            refine DJ.done (by kernel_rfl) ?_
            refine ⟨(b57, oK0, aK0, pK0, tK0, xK0, mK0, cK0, bK0, qK0, psK0, kaK0, kcK0), ?_, ?_, ?_, Ent.pick [0, 1, 6, 7, 8, 5, 9] [2, 3, 4] rfl⟩
            · exact ⟨by omega, by omega, hlK0, hwK0, by omega⟩
            · exact ⟨rfl, rfl, rfl, trivial⟩
            · exact ⟨rfl, trivial⟩
        · refine DO.yd rfl rfl rfl (fun _ _ _ => Yd.loadC 0 rfl rfl rfl) ?_
          refine DJ.two (i := 2) (j := 9) (by kernel_rfl) ?_ ?_
          · refine DO.yd rfl rfl rfl (fun _ _ _ => Yd.loadC 0 rfl rfl rfl) ?_
            refine DJ.two (i := 8) (j := 9) (by kernel_rfl) ?_ ?_
            · refine DO.call (pickF _ [2]) (pickF _ [3, 0, 1]) rfl rfl rfl (perm_pickF _ [2] [3, 0, 1] rfl) (fun k0 hk0 dk0 k hk dk => grow_ok 5 _ _ _ _ _ _ _ _ _ [] _ _ _ _ _ hcode.up (by omega) (by omega) (by simp) (by simp) (by omega) (by omega) (by omega) (by omega) (by omega) (by omega) (by omega)) ?_
              rintro _ _ ⟨oK0, aK0, pK0, tK0, xK0, mK0, cK0, bK0, qK0, psK0, kaK0, kcK0, rfl, rfl, hqK0, hrK0, hlK0, hwK0, hzK0⟩
              refine DJ.norm [_, _, _, _] [_, _, _, _, _] rfl rfl ?_
              refine DJ.one (i := 9) (by kernel_rfl) ?_
              refine DO.alloc ([_, _, _, _, _] : List Value) rfl rfl rfl rfl (fun b58 => ?_)
              refine DJ.one (i := 10) (by kernel_rfl) ?_
              refine DO.store (v := .agg #[_, _, _, _, _]) (us := [_, _, _, _, _]) 5 rfl rfl rfl rfl rfl rfl rfl rfl rfl rfl ?_
              refine DJ.done (by kernel_rfl) ?_
              refine ⟨(b58, oK0, aK0, pK0, tK0, xK0, mK0, cK0, bK0, qK0, psK0, kaK0, kcK0), ?_, ?_, ?_, Ent.pick [0, 1, 5, 6, 7, 9, 8] [2, 3, 4] rfl⟩
              · exact ⟨by omega, by omega, hlK0, hwK0, by omega⟩
              · exact ⟨rfl, rfl, rfl, trivial⟩
              · exact ⟨rfl, trivial⟩
            · refine DO.alloc ([_, _, _, _, _] : List Value) rfl rfl rfl rfl (fun b59 => ?_)
              refine DJ.one (i := 8) (by kernel_rfl) ?_
              refine DO.call (pickF _ [2, 4]) (pickF _ [3, 0, 1]) rfl rfl rfl (perm_pickF _ [2, 4] [3, 0, 1] rfl) (fun k0 hk0 dk0 k hk dk => grow_ok 5 _ _ _ _ _ _ _ _ _ [] _ _ _ _ _ hcode.up (by omega) (by omega) (by simp) (by simp) (by omega) (by omega) (by omega) (by omega) (by omega) (by omega) (by omega)) ?_
              rintro _ _ ⟨oK0, aK0, pK0, tK0, xK0, mK0, cK0, bK0, qK0, psK0, kaK0, kcK0, rfl, rfl, hqK0, hrK0, hlK0, hwK0, hzK0⟩
              refine DJ.norm [_, _, _, _] [_, _, _, _, _, _] rfl rfl ?_
              refine DJ.one (i := 10) (by kernel_rfl) ?_
              refine DO.store (v := .agg #[_, _, _, _, _]) (us := [_, _, _, _, _]) 1 rfl rfl rfl rfl rfl rfl rfl rfl rfl rfl ?_
              refine DJ.done (by kernel_rfl) ?_
              refine ⟨(b59, oK0, aK0, pK0, tK0, xK0, mK0, cK0, bK0, qK0, psK0, kaK0, kcK0), ?_, ?_, ?_, Ent.pick [0, 1, 6, 7, 8, 5, 9] [2, 3, 4] rfl⟩
              · exact ⟨by omega, by omega, hlK0, hwK0, by omega⟩
              · exact ⟨rfl, rfl, rfl, trivial⟩
              · exact ⟨rfl, trivial⟩
          · refine DO.alloc ([_, _, _, _, _] : List Value) rfl rfl rfl rfl (fun b60 => ?_)
            refine DJ.one (i := 2) (by kernel_rfl) ?_
            refine DO.yd rfl rfl rfl (fun _ _ _ => Yd.loadC 0 rfl rfl rfl) ?_
            refine DJ.one (i := 8) (by kernel_rfl) ?_
            refine DO.call (pickF _ [2, 4]) (pickF _ [3, 0, 1]) rfl rfl rfl (perm_pickF _ [2, 4] [3, 0, 1] rfl) (fun k0 hk0 dk0 k hk dk => grow_ok 5 _ _ _ _ _ _ _ _ _ [] _ _ _ _ _ hcode.up (by omega) (by omega) (by simp) (by simp) (by omega) (by omega) (by omega) (by omega) (by omega) (by omega) (by omega)) ?_
            rintro _ _ ⟨oK0, aK0, pK0, tK0, xK0, mK0, cK0, bK0, qK0, psK0, kaK0, kcK0, rfl, rfl, hqK0, hrK0, hlK0, hwK0, hzK0⟩
            refine DJ.norm [_, _, _, _] [_, _, _, _, _, _] rfl rfl ?_
            refine DJ.one (i := 10) (by kernel_rfl) ?_
            refine DO.store (v := .agg #[_, _, _, _, _]) (us := [_, _, _, _, _]) 1 rfl rfl rfl rfl rfl rfl rfl rfl rfl rfl ?_
            refine DJ.done (by kernel_rfl) ?_
            refine ⟨(b60, oK0, aK0, pK0, tK0, xK0, mK0, cK0, bK0, qK0, psK0, kaK0, kcK0), ?_, ?_, ?_, Ent.pick [0, 1, 6, 7, 8, 5, 9] [2, 3, 4] rfl⟩
            · exact ⟨by omega, by omega, hlK0, hwK0, by omega⟩
            · exact ⟨rfl, rfl, rfl, trivial⟩
            · exact ⟨rfl, trivial⟩
        · refine DO.alloc ([_, _, _, _, _] : List Value) rfl rfl rfl rfl (fun b61 => ?_)
          refine DJ.two (i := 2) (j := 4) (by kernel_rfl) ?_ ?_
          · refine DO.yd rfl rfl rfl (fun _ _ _ => Yd.loadC 0 rfl rfl rfl) ?_
            refine DJ.one (i := 4) (by kernel_rfl) ?_
            refine DO.yd rfl rfl rfl (fun _ _ _ => Yd.loadC 0 rfl rfl rfl) ?_
            refine DJ.one (i := 8) (by kernel_rfl) ?_
            refine DO.call (pickF _ [2, 4]) (pickF _ [3, 0, 1]) rfl rfl rfl (perm_pickF _ [2, 4] [3, 0, 1] rfl) (fun k0 hk0 dk0 k hk dk => grow_ok 5 _ _ _ _ _ _ _ _ _ [] _ _ _ _ _ hcode.up (by omega) (by omega) (by simp) (by simp) (by omega) (by omega) (by omega) (by omega) (by omega) (by omega) (by omega)) ?_
            rintro _ _ ⟨oK0, aK0, pK0, tK0, xK0, mK0, cK0, bK0, qK0, psK0, kaK0, kcK0, rfl, rfl, hqK0, hrK0, hlK0, hwK0, hzK0⟩
            refine DJ.norm [_, _, _, _] [_, _, _, _, _, _] rfl rfl ?_
            refine DJ.one (i := 10) (by kernel_rfl) ?_
            refine DO.store (v := .agg #[_, _, _, _, _]) (us := [_, _, _, _, _]) 1 rfl rfl rfl rfl rfl rfl rfl rfl rfl rfl ?_
            refine DJ.done (by kernel_rfl) ?_
            refine ⟨(b61, oK0, aK0, pK0, tK0, xK0, mK0, cK0, bK0, qK0, psK0, kaK0, kcK0), ?_, ?_, ?_, Ent.pick [0, 1, 6, 7, 8, 5, 9] [2, 3, 4] rfl⟩
            · exact ⟨by omega, by omega, hlK0, hwK0, by omega⟩
            · exact ⟨rfl, rfl, rfl, trivial⟩
            · exact ⟨rfl, trivial⟩
          · refine DO.yd rfl rfl rfl (fun _ _ _ => Yd.loadC 0 rfl rfl rfl) ?_
            refine DJ.one (i := 2) (by kernel_rfl) ?_
            refine DO.yd rfl rfl rfl (fun _ _ _ => Yd.loadC 0 rfl rfl rfl) ?_
            refine DJ.one (i := 8) (by kernel_rfl) ?_
            refine DO.call (pickF _ [2, 4]) (pickF _ [3, 0, 1]) rfl rfl rfl (perm_pickF _ [2, 4] [3, 0, 1] rfl) (fun k0 hk0 dk0 k hk dk => grow_ok 5 _ _ _ _ _ _ _ _ _ [] _ _ _ _ _ hcode.up (by omega) (by omega) (by simp) (by simp) (by omega) (by omega) (by omega) (by omega) (by omega) (by omega) (by omega)) ?_
            rintro _ _ ⟨oK0, aK0, pK0, tK0, xK0, mK0, cK0, bK0, qK0, psK0, kaK0, kcK0, rfl, rfl, hqK0, hrK0, hlK0, hwK0, hzK0⟩
            refine DJ.norm [_, _, _, _] [_, _, _, _, _, _] rfl rfl ?_
            refine DJ.one (i := 10) (by kernel_rfl) ?_
            refine DO.store (v := .agg #[_, _, _, _, _]) (us := [_, _, _, _, _]) 1 rfl rfl rfl rfl rfl rfl rfl rfl rfl rfl ?_
            refine DJ.done (by kernel_rfl) ?_
            refine ⟨(b61, oK0, aK0, pK0, tK0, xK0, mK0, cK0, bK0, qK0, psK0, kaK0, kcK0), ?_, ?_, ?_, Ent.pick [0, 1, 6, 7, 8, 5, 9] [2, 3, 4] rfl⟩
            · exact ⟨by omega, by omega, hlK0, hwK0, by omega⟩
            · exact ⟨rfl, rfl, rfl, trivial⟩
            · exact ⟨rfl, trivial⟩
      · refine DO.alloc ([_, _, _, _, _] : List Value) rfl rfl rfl rfl (fun b62 => ?_)
        refine DJ.three (i := 2) (j := 4) (m := 7) (by kernel_rfl) ?_ ?_ ?_
        · refine DO.yd rfl rfl rfl (fun _ _ _ => Yd.loadC 1 rfl rfl rfl) ?_
          refine DJ.two (i := 4) (j := 7) (by kernel_rfl) ?_ ?_
          · refine DO.yd rfl rfl rfl (fun _ _ _ => Yd.loadC 1 rfl rfl rfl) ?_
            refine DJ.one (i := 7) (by kernel_rfl) ?_
            refine DO.call (pickF _ [1, 2, 3, 4]) (pickF _ [0]) rfl rfl rfl (perm_pickF _ [1, 2, 3, 4] [0] rfl) (fun k0 hk0 dk0 k hk dk => one_ok (l := [3, 2, 4, 1, 0]) (hcode.up) (LitAt.of (l := [3, 2, 4, 1, 0]) hk dk 2 rfl) (by simp) (by omega) (by omega)) ?_
            rintro _ _ ⟨x20, rfl, hx20, rfl⟩
            simp only [List.mem_cons, List.not_mem_nil, or_false] at hx20
            refine DJ.norm [_, _, _, _] [_, _, _, _, _] rfl rfl ?_
            refine DJ.one (i := 8) (by kernel_rfl) ?_
            refine DO.call (pickF _ [2, 3]) (pickF _ [4, 0, 1]) rfl rfl rfl (perm_pickF _ [2, 3] [4, 0, 1] rfl) (fun k0 hk0 dk0 k hk dk => grow_ok 5 _ _ _ _ _ _ _ _ _ [] _ _ _ _ _ hcode.up (by omega) (by omega) (by simp) (by simp) (by omega) (by omega) (by omega) (by omega) (by omega) (by omega) (by omega)) ?_
            rintro _ _ ⟨oK0, aK0, pK0, tK0, xK0, mK0, cK0, bK0, qK0, psK0, kaK0, kcK0, rfl, rfl, hqK0, hrK0, hlK0, hwK0, hzK0⟩
            refine DJ.norm [_, _, _, _] [_, _, _, _, _, _] rfl rfl ?_
            refine DJ.one (i := 10) (by kernel_rfl) ?_
            refine DO.store (v := .agg #[_, _, _, _, _]) (us := [_, _, _, _, _]) 1 rfl rfl rfl rfl rfl rfl rfl rfl rfl rfl ?_
            refine DJ.done (by kernel_rfl) ?_
            refine ⟨(b62, oK0, aK0, pK0, tK0, xK0, mK0, cK0, bK0, qK0, psK0, kaK0, kcK0), ?_, ?_, ?_, Ent.pick [0, 1, 6, 7, 8, 5, 9] [2, 3, 4] rfl⟩
            · exact ⟨by omega, by omega, hlK0, hwK0, by omega⟩
            · exact ⟨rfl, rfl, rfl, trivial⟩
            · exact ⟨rfl, trivial⟩
          · refine DO.call (pickF _ [1, 2, 3, 4]) (pickF _ [0]) rfl rfl rfl (perm_pickF _ [1, 2, 3, 4] [0] rfl) (fun k0 hk0 dk0 k hk dk => one_ok (l := [3, 2, 4, 1, 0]) (hcode.up) (LitAt.of (l := [3, 2, 4, 1, 0]) hk dk 2 rfl) (by simp) (by omega) (by omega)) ?_
            rintro _ _ ⟨x20, rfl, hx20, rfl⟩
            simp only [List.mem_cons, List.not_mem_nil, or_false] at hx20
            refine DJ.norm [_, _, _, _] [_, _, _, _, _] rfl rfl ?_
            refine DJ.one (i := 4) (by kernel_rfl) ?_
            refine DO.yd rfl rfl rfl (fun _ _ _ => Yd.loadC 0 rfl rfl rfl) ?_
            refine DJ.one (i := 8) (by kernel_rfl) ?_
            refine DO.call (pickF _ [2, 3]) (pickF _ [4, 0, 1]) rfl rfl rfl (perm_pickF _ [2, 3] [4, 0, 1] rfl) (fun k0 hk0 dk0 k hk dk => grow_ok 5 _ _ _ _ _ _ _ _ _ [] _ _ _ _ _ hcode.up (by omega) (by omega) (by simp) (by simp) (by omega) (by omega) (by omega) (by omega) (by omega) (by omega) (by omega)) ?_
            rintro _ _ ⟨oK0, aK0, pK0, tK0, xK0, mK0, cK0, bK0, qK0, psK0, kaK0, kcK0, rfl, rfl, hqK0, hrK0, hlK0, hwK0, hzK0⟩
            refine DJ.norm [_, _, _, _] [_, _, _, _, _, _] rfl rfl ?_
            refine DJ.one (i := 10) (by kernel_rfl) ?_
            refine DO.store (v := .agg #[_, _, _, _, _]) (us := [_, _, _, _, _]) 1 rfl rfl rfl rfl rfl rfl rfl rfl rfl rfl ?_
            refine DJ.done (by kernel_rfl) ?_
            refine ⟨(b62, oK0, aK0, pK0, tK0, xK0, mK0, cK0, bK0, qK0, psK0, kaK0, kcK0), ?_, ?_, ?_, Ent.pick [0, 1, 6, 7, 8, 5, 9] [2, 3, 4] rfl⟩
            · exact ⟨by omega, by omega, hlK0, hwK0, by omega⟩
            · exact ⟨rfl, rfl, rfl, trivial⟩
            · exact ⟨rfl, trivial⟩
        · refine DO.yd rfl rfl rfl (fun _ _ _ => Yd.loadC 1 rfl rfl rfl) ?_
          refine DJ.two (i := 2) (j := 7) (by kernel_rfl) ?_ ?_
          · refine DO.yd rfl rfl rfl (fun _ _ _ => Yd.loadC 1 rfl rfl rfl) ?_
            refine DJ.one (i := 7) (by kernel_rfl) ?_
            refine DO.call (pickF _ [1, 2, 3, 4]) (pickF _ [0]) rfl rfl rfl (perm_pickF _ [1, 2, 3, 4] [0] rfl) (fun k0 hk0 dk0 k hk dk => one_ok (l := [3, 2, 4, 1, 0]) (hcode.up) (LitAt.of (l := [3, 2, 4, 1, 0]) hk dk 2 rfl) (by simp) (by omega) (by omega)) ?_
            rintro _ _ ⟨x20, rfl, hx20, rfl⟩
            simp only [List.mem_cons, List.not_mem_nil, or_false] at hx20
            refine DJ.norm [_, _, _, _] [_, _, _, _, _] rfl rfl ?_
            refine DJ.one (i := 8) (by kernel_rfl) ?_
            refine DO.call (pickF _ [2, 3]) (pickF _ [4, 0, 1]) rfl rfl rfl (perm_pickF _ [2, 3] [4, 0, 1] rfl) (fun k0 hk0 dk0 k hk dk => grow_ok 5 _ _ _ _ _ _ _ _ _ [] _ _ _ _ _ hcode.up (by omega) (by omega) (by simp) (by simp) (by omega) (by omega) (by omega) (by omega) (by omega) (by omega) (by omega)) ?_
            rintro _ _ ⟨oK0, aK0, pK0, tK0, xK0, mK0, cK0, bK0, qK0, psK0, kaK0, kcK0, rfl, rfl, hqK0, hrK0, hlK0, hwK0, hzK0⟩
            refine DJ.norm [_, _, _, _] [_, _, _, _, _, _] rfl rfl ?_
            refine DJ.one (i := 10) (by kernel_rfl) ?_
            refine DO.store (v := .agg #[_, _, _, _, _]) (us := [_, _, _, _, _]) 1 rfl rfl rfl rfl rfl rfl rfl rfl rfl rfl ?_
            refine DJ.done (by kernel_rfl) ?_
            refine ⟨(b62, oK0, aK0, pK0, tK0, xK0, mK0, cK0, bK0, qK0, psK0, kaK0, kcK0), ?_, ?_, ?_, Ent.pick [0, 1, 6, 7, 8, 5, 9] [2, 3, 4] rfl⟩
            · exact ⟨by omega, by omega, hlK0, hwK0, by omega⟩
            · exact ⟨rfl, rfl, rfl, trivial⟩
            · exact ⟨rfl, trivial⟩
          · refine DO.call (pickF _ [1, 2, 3, 4]) (pickF _ [0]) rfl rfl rfl (perm_pickF _ [1, 2, 3, 4] [0] rfl) (fun k0 hk0 dk0 k hk dk => one_ok (l := [3, 2, 4, 1, 0]) (hcode.up) (LitAt.of (l := [3, 2, 4, 1, 0]) hk dk 2 rfl) (by simp) (by omega) (by omega)) ?_
            rintro _ _ ⟨x20, rfl, hx20, rfl⟩
            simp only [List.mem_cons, List.not_mem_nil, or_false] at hx20
            refine DJ.norm [_, _, _, _] [_, _, _, _, _] rfl rfl ?_
            refine DJ.one (i := 2) (by kernel_rfl) ?_
            refine DO.yd rfl rfl rfl (fun _ _ _ => Yd.loadC 0 rfl rfl rfl) ?_
            refine DJ.one (i := 8) (by kernel_rfl) ?_
            refine DO.call (pickF _ [2, 3]) (pickF _ [4, 0, 1]) rfl rfl rfl (perm_pickF _ [2, 3] [4, 0, 1] rfl) (fun k0 hk0 dk0 k hk dk => grow_ok 5 _ _ _ _ _ _ _ _ _ [] _ _ _ _ _ hcode.up (by omega) (by omega) (by simp) (by simp) (by omega) (by omega) (by omega) (by omega) (by omega) (by omega) (by omega)) ?_
            rintro _ _ ⟨oK0, aK0, pK0, tK0, xK0, mK0, cK0, bK0, qK0, psK0, kaK0, kcK0, rfl, rfl, hqK0, hrK0, hlK0, hwK0, hzK0⟩
            refine DJ.norm [_, _, _, _] [_, _, _, _, _, _] rfl rfl ?_
            refine DJ.one (i := 10) (by kernel_rfl) ?_
            refine DO.store (v := .agg #[_, _, _, _, _]) (us := [_, _, _, _, _]) 1 rfl rfl rfl rfl rfl rfl rfl rfl rfl rfl ?_
            refine DJ.done (by kernel_rfl) ?_
            refine ⟨(b62, oK0, aK0, pK0, tK0, xK0, mK0, cK0, bK0, qK0, psK0, kaK0, kcK0), ?_, ?_, ?_, Ent.pick [0, 1, 6, 7, 8, 5, 9] [2, 3, 4] rfl⟩
            · exact ⟨by omega, by omega, hlK0, hwK0, by omega⟩
            · exact ⟨rfl, rfl, rfl, trivial⟩
            · exact ⟨rfl, trivial⟩
        · refine DO.call (pickF _ [1, 2, 3, 4]) (pickF _ [0]) rfl rfl rfl (perm_pickF _ [1, 2, 3, 4] [0] rfl) (fun k0 hk0 dk0 k hk dk => one_ok (l := [3, 2, 4, 1, 0]) (hcode.up) (LitAt.of (l := [3, 2, 4, 1, 0]) hk dk 2 rfl) (by simp) (by omega) (by omega)) ?_
          rintro _ _ ⟨x20, rfl, hx20, rfl⟩
          simp only [List.mem_cons, List.not_mem_nil, or_false] at hx20
          refine DJ.norm [_, _, _, _] [_, _, _, _, _] rfl rfl ?_
          refine DJ.two (i := 2) (j := 4) (by kernel_rfl) ?_ ?_
          · refine DO.yd rfl rfl rfl (fun _ _ _ => Yd.loadC 0 rfl rfl rfl) ?_
            refine DJ.one (i := 4) (by kernel_rfl) ?_
            refine DO.yd rfl rfl rfl (fun _ _ _ => Yd.loadC 0 rfl rfl rfl) ?_
            refine DJ.one (i := 8) (by kernel_rfl) ?_
            refine DO.call (pickF _ [2, 3]) (pickF _ [4, 0, 1]) rfl rfl rfl (perm_pickF _ [2, 3] [4, 0, 1] rfl) (fun k0 hk0 dk0 k hk dk => grow_ok 5 _ _ _ _ _ _ _ _ _ [] _ _ _ _ _ hcode.up (by omega) (by omega) (by simp) (by simp) (by omega) (by omega) (by omega) (by omega) (by omega) (by omega) (by omega)) ?_
            rintro _ _ ⟨oK0, aK0, pK0, tK0, xK0, mK0, cK0, bK0, qK0, psK0, kaK0, kcK0, rfl, rfl, hqK0, hrK0, hlK0, hwK0, hzK0⟩
            refine DJ.norm [_, _, _, _] [_, _, _, _, _, _] rfl rfl ?_
            refine DJ.one (i := 10) (by kernel_rfl) ?_
            refine DO.store (v := .agg #[_, _, _, _, _]) (us := [_, _, _, _, _]) 1 rfl rfl rfl rfl rfl rfl rfl rfl rfl rfl ?_
            refine DJ.done (by kernel_rfl) ?_
            refine ⟨(b62, oK0, aK0, pK0, tK0, xK0, mK0, cK0, bK0, qK0, psK0, kaK0, kcK0), ?_, ?_, ?_, Ent.pick [0, 1, 6, 7, 8, 5, 9] [2, 3, 4] rfl⟩
            · exact ⟨by omega, by omega, hlK0, hwK0, by omega⟩
            · exact ⟨rfl, rfl, rfl, trivial⟩
            · exact ⟨rfl, trivial⟩
          · refine DO.yd rfl rfl rfl (fun _ _ _ => Yd.loadC 0 rfl rfl rfl) ?_
            refine DJ.one (i := 2) (by kernel_rfl) ?_
            refine DO.yd rfl rfl rfl (fun _ _ _ => Yd.loadC 0 rfl rfl rfl) ?_
            refine DJ.one (i := 8) (by kernel_rfl) ?_
            refine DO.call (pickF _ [2, 3]) (pickF _ [4, 0, 1]) rfl rfl rfl (perm_pickF _ [2, 3] [4, 0, 1] rfl) (fun k0 hk0 dk0 k hk dk => grow_ok 5 _ _ _ _ _ _ _ _ _ [] _ _ _ _ _ hcode.up (by omega) (by omega) (by simp) (by simp) (by omega) (by omega) (by omega) (by omega) (by omega) (by omega) (by omega)) ?_
            rintro _ _ ⟨oK0, aK0, pK0, tK0, xK0, mK0, cK0, bK0, qK0, psK0, kaK0, kcK0, rfl, rfl, hqK0, hrK0, hlK0, hwK0, hzK0⟩
            refine DJ.norm [_, _, _, _] [_, _, _, _, _, _] rfl rfl ?_
            refine DJ.one (i := 10) (by kernel_rfl) ?_
            refine DO.store (v := .agg #[_, _, _, _, _]) (us := [_, _, _, _, _]) 1 rfl rfl rfl rfl rfl rfl rfl rfl rfl rfl ?_
            refine DJ.done (by kernel_rfl) ?_
            refine ⟨(b62, oK0, aK0, pK0, tK0, xK0, mK0, cK0, bK0, qK0, psK0, kaK0, kcK0), ?_, ?_, ?_, Ent.pick [0, 1, 6, 7, 8, 5, 9] [2, 3, 4] rfl⟩
            · exact ⟨by omega, by omega, hlK0, hwK0, by omega⟩
            · exact ⟨rfl, rfl, rfl, trivial⟩
            · exact ⟨rfl, trivial⟩
    · refine DO.alloc ([_, _, _, _, _] : List Value) rfl rfl rfl rfl (fun b63 => ?_)
      refine DJ.three (i := 2) (j := 4) (m := 6) (by kernel_rfl) ?_ ?_ ?_
      · refine DO.yd rfl rfl rfl (fun _ _ _ => Yd.loadC 1 rfl rfl rfl) ?_
        refine DJ.two (i := 4) (j := 6) (by kernel_rfl) ?_ ?_
        · refine DO.yd rfl rfl rfl (fun _ _ _ => Yd.loadC 1 rfl rfl rfl) ?_
          refine DJ.one (i := 6) (by kernel_rfl) ?_
          refine DO.op rfl rfl rfl (fun k0 hk0 dk0 => OpR.buildSlice (cs := [_, _, _, _, _]) rfl rfl) ?_
          rintro _ _ ⟨b64, rfl, rfl⟩
          refine DJ.one (i := 7) (by kernel_rfl) ?_
          refine DO.call (pickF _ [1, 2, 3, 4]) (pickF _ [0]) rfl rfl rfl (perm_pickF _ [1, 2, 3, 4] [0] rfl) (fun k0 hk0 dk0 k hk dk => one_ok (l := [3, 2, 4, 1, 0]) (hcode.up) (LitAt.of (l := [3, 2, 4, 1, 0]) hk dk 3 rfl) (by simp) (by omega) (by omega)) ?_
          rintro _ _ ⟨x20, rfl, hx20, rfl⟩
          simp only [List.mem_cons, List.not_mem_nil, or_false] at hx20
          refine DJ.norm [_, _, _, _] [_, _, _, _, _] rfl rfl ?_
          refine DJ.one (i := 8) (by kernel_rfl) ?_
          refine DO.call (pickF _ [2, 3]) (pickF _ [4, 0, 1]) rfl rfl rfl (perm_pickF _ [2, 3] [4, 0, 1] rfl) (fun k0 hk0 dk0 k hk dk => grow_ok 5 _ _ _ _ _ _ _ _ _ [] _ _ _ _ _ hcode.up (by omega) (by omega) (by simp) (by simp) (by omega) (by omega) (by omega) (by omega) (by omega) (by omega) (by omega)) ?_
          rintro _ _ ⟨oK0, aK0, pK0, tK0, xK0, mK0, cK0, bK0, qK0, psK0, kaK0, kcK0, rfl, rfl, hqK0, hrK0, hlK0, hwK0, hzK0⟩
          refine DJ.norm [_, _, _, _] [_, _, _, _, _, _] rfl rfl ?_
          refine DJ.one (i := 10) (by kernel_rfl) ?_
          refine DO.store (v := .agg #[_, _, _, _, _]) (us := [_, _, _, _, _]) 0 rfl rfl rfl rfl rfl rfl rfl rfl rfl rfl ?_
          refine DJ.done (by kernel_rfl) ?_
          refine ⟨(b63, oK0, aK0, pK0, tK0, xK0, mK0, cK0, bK0, qK0, psK0, kaK0, kcK0), ?_, ?_, ?_, Ent.pick [0, 1, 6, 7, 8, 4, 9] [2, 3, 5] rfl⟩
          · exact ⟨by omega, by omega, hlK0, hwK0, by omega⟩
          · exact ⟨rfl, rfl, rfl, trivial⟩
          · exact ⟨rfl, trivial⟩
        · refine DO.op rfl rfl rfl (fun k0 hk0 dk0 => OpR.buildSlice (cs := [_, _, _, _, _]) rfl rfl) ?_
          rintro _ _ ⟨b65, rfl, rfl⟩
          refine DJ.two (i := 4) (j := 7) (by kernel_rfl) ?_ ?_
          · refine DO.yd rfl rfl rfl (fun _ _ _ => Yd.loadC 1 rfl rfl rfl) ?_
            refine DJ.one (i := 7) (by kernel_rfl) ?_
            refine DO.call (pickF _ [1, 2, 3, 4]) (pickF _ [0]) rfl rfl rfl (perm_pickF _ [1, 2, 3, 4] [0] rfl) (fun k0 hk0 dk0 k hk dk => one_ok (l := [3, 2, 4, 1, 0]) (hcode.up) (LitAt.of (l := [3, 2, 4, 1, 0]) hk dk 3 rfl) (by simp) (by omega) (by omega)) ?_
            rintro _ _ ⟨x20, rfl, hx20, rfl⟩
            simp only [List.mem_cons, List.not_mem_nil, or_false] at hx20
            refine DJ.norm [_, _, _, _] [_, _, _, _, _] rfl rfl ?_
            refine DJ.one (i := 8) (by kernel_rfl) ?_
            refine DO.call (pickF _ [2, 3]) (pickF _ [4, 0, 1]) rfl rfl rfl (perm_pickF _ [2, 3] [4, 0, 1] rfl) (fun k0 hk0 dk0 k hk dk => grow_ok 5 _ _ _ _ _ _ _ _ _ [] _ _ _ _ _ hcode.up (by omega) (by omega) (by simp) (by simp) (by omega) (by omega) (by omega) (by omega) (by omega) (by omega) (by omega)) ?_
            rintro _ _ ⟨oK0, aK0, pK0, tK0, xK0, mK0, cK0, bK0, qK0, psK0, kaK0, kcK0, rfl, rfl, hqK0, hrK0, hlK0, hwK0, hzK0⟩
            refine DJ.norm [_, _, _, _] [_, _, _, _, _, _] rfl rfl ?_
            refine DJ.one (i := 10) (by kernel_rfl) ?_
            refine DO.store (v := .agg #[_, _, _, _, _]) (us := [_, _, _, _, _]) 0 rfl rfl rfl rfl rfl rfl rfl rfl rfl rfl ?_
            refine DJ.done (by kernel_rfl) ?_
            refine ⟨(b63, oK0, aK0, pK0, tK0, xK0, mK0, cK0, bK0, qK0, psK0, kaK0, kcK0), ?_, ?_, ?_, Ent.pick [0, 1, 6, 7, 8, 4, 9] [2, 3, 5] rfl⟩
            · exact ⟨by omega, by omega, hlK0, hwK0, by omega⟩
            · exact ⟨rfl, rfl, rfl, trivial⟩
            · exact ⟨rfl, trivial⟩
          · refine DO.call (pickF _ [1, 2, 3, 4]) (pickF _ [0]) rfl rfl rfl (perm_pickF _ [1, 2, 3, 4] [0] rfl) (fun k0 hk0 dk0 k hk dk => one_ok (l := [3, 2, 4, 1, 0]) (hcode.up) (LitAt.of (l := [3, 2, 4, 1, 0]) hk dk 3 rfl) (by simp) (by omega) (by omega)) ?_
            rintro _ _ ⟨x20, rfl, hx20, rfl⟩
            simp only [List.mem_cons, List.not_mem_nil, or_false] at hx20
            refine DJ.norm [_, _, _, _] [_, _, _, _, _] rfl rfl ?_
            refine DJ.one (i := 4) (by kernel_rfl) ?_
            refine DO.yd rfl rfl rfl (fun _ _ _ => Yd.loadC 0 rfl rfl rfl) ?_
            refine DJ.one (i := 8) (by kernel_rfl) ?_
            refine DO.call (pickF _ [2, 3]) (pickF _ [4, 0, 1]) rfl rfl rfl (perm_pickF _ [2, 3] [4, 0, 1] rfl) (fun k0 hk0 dk0 k hk dk => grow_ok 5 _ _ _ _ _ _ _ _ _ [] _ _ _ _ _ hcode.up (by omega) (by omega) (by simp) (by simp) (by omega) (by omega) (by omega) (by omega) (by omega) (by omega) (by omega)) ?_
            rintro _ _ ⟨oK0, aK0, pK0, tK0, xK0, mK0, cK0, bK0, qK0, psK0, kaK0, kcK0, rfl, rfl, hqK0, hrK0, hlK0, hwK0, hzK0⟩
            refine DJ.norm [_, _, _, _] [_, _, _, _, _, _] rfl rfl ?_
            refine DJ.one (i := 10) (by kernel_rfl) ?_
            refine DO.store (v := .agg #[_, _, _, _, _]) (us := [_, _, _, _, _]) 0 rfl rfl rfl rfl rfl rfl rfl rfl rfl rfl ?_
            refine DJ.done (by kernel_rfl) ?_
            refine ⟨(b63, oK0, aK0, pK0, tK0, xK0, mK0, cK0, bK0, qK0, psK0, kaK0, kcK0), ?_, ?_, ?_, Ent.pick [0, 1, 6, 7, 8, 4, 9] [2, 3, 5] rfl⟩
            · exact ⟨by omega, by omega, hlK0, hwK0, by omega⟩
            · exact ⟨rfl, rfl, rfl, trivial⟩
            · exact ⟨rfl, trivial⟩
      · refine DO.yd rfl rfl rfl (fun _ _ _ => Yd.loadC 1 rfl rfl rfl) ?_
        refine DJ.two (i := 2) (j := 6) (by kernel_rfl) ?_ ?_
        · refine DO.yd rfl rfl rfl (fun _ _ _ => Yd.loadC 1 rfl rfl rfl) ?_
          refine DJ.one (i := 6) (by kernel_rfl) ?_
          refine DO.op rfl rfl rfl (fun k0 hk0 dk0 => OpR.buildSlice (cs := [_, _, _, _, _]) rfl rfl) ?_
          rintro _ _ ⟨b66, rfl, rfl⟩
          refine DJ.one (i := 7) (by kernel_rfl) ?_
          refine DO.call (pickF _ [1, 2, 3, 4]) (pickF _ [0]) rfl rfl rfl (perm_pickF _ [1, 2, 3, 4] [0] rfl) (fun k0 hk0 dk0 k hk dk => one_ok (l := [3, 2, 4, 1, 0]) (hcode.up) (LitAt.of (l := [3, 2, 4, 1, 0]) hk dk 3 rfl) (by simp) (by omega) (by omega)) ?_
          rintro _ _ ⟨x20, rfl, hx20, rfl⟩
          simp only [List.mem_cons, List.not_mem_nil, or_false] at hx20
          refine DJ.norm [_, _, _, _] [_, _, _, _, _] rfl rfl ?_
          refine DJ.one (i := 8) (by kernel_rfl) ?_
          refine DO.call (pickF _ [2, 3]) (pickF _ [4, 0, 1]) rfl rfl rfl (perm_pickF _ [2, 3] [4, 0, 1] rfl) (fun k0 hk0 dk0 k hk dk => grow_ok 5 _ _ _ _ _ _ _ _ _ [] _ _ _ _ _ hcode.up (by omega) (by omega) (by simp) (by simp) (by omega) (by omega) (by omega) (by omega) (by omega) (by omega) (by omega)) ?_
          rintro _ _ ⟨oK0, aK0, pK0, tK0, xK0, mK0, cK0, bK0, qK0, psK0, kaK0, kcK0, rfl, rfl, hqK0, hrK0, hlK0, hwK0, hzK0⟩
          refine DJ.norm [_, _, _, _] [_, _, _, _, _, _] rfl rfl ?_
          refine DJ.one (i := 10) (by kernel_rfl) ?_
          refine DO.store (v := .agg #[_, _, _, _, _]) (us := [_, _, _, _, _]) 0 rfl rfl rfl rfl rfl rfl rfl rfl rfl rfl ?_
          refine DJ.done (by kernel_rfl) ?_
          refine ⟨(b63, oK0, aK0, pK0, tK0, xK0, mK0, cK0, bK0, qK0, psK0, kaK0, kcK0), ?_, ?_, ?_, Ent.pick [0, 1, 6, 7, 8, 4, 9] [2, 3, 5] rfl⟩
          · exact ⟨by omega, by omega, hlK0, hwK0, by omega⟩
          · exact ⟨rfl, rfl, rfl, trivial⟩
          · exact ⟨rfl, trivial⟩
        · refine DO.op rfl rfl rfl (fun k0 hk0 dk0 => OpR.buildSlice (cs := [_, _, _, _, _]) rfl rfl) ?_
          rintro _ _ ⟨b67, rfl, rfl⟩
          refine DJ.two (i := 2) (j := 7) (by kernel_rfl) ?_ ?_
          · refine DO.yd rfl rfl rfl (fun _ _ _ => Yd.loadC 1 rfl rfl rfl) ?_
            refine DJ.one (i := 7) (by kernel_rfl) ?_
            refine DO.call (pickF _ [1, 2, 3, 4]) (pickF _ [0]) rfl rfl rfl (perm_pickF _ [1, 2, 3, 4] [0] rfl) (fun k0 hk0 dk0 k hk dk => one_ok (l := [3, 2, 4, 1, 0]) (hcode.up) (LitAt.of (l := [3, 2, 4, 1, 0]) hk dk 3 rfl) (by simp) (by omega) (by omega)) ?_
            rintro _ _ ⟨x20, rfl, hx20, rfl⟩
            simp only [List.mem_cons, List.not_mem_nil, or_false] at hx20
            refine DJ.norm [_, _, _, _] [_, _, _, _, _] rfl rfl ?_
            refine DJ.one (i := 8) (by kernel_rfl) ?_
            refine DO.call (pickF _ [2, 3]) (pickF _ [4, 0, 1]) rfl rfl rfl (perm_pickF _ [2, 3] [4, 0, 1] rfl) (fun k0 hk0 dk0 k hk dk => grow_ok 5 _ _ _ _ _ _ _ _ _ [] _ _ _ _ _ hcode.up (by omega) (by omega) (by simp) (by simp) (by omega) (by omega) (by omega) (by omega) (by omega) (by omega) (by omega)) ?_
            rintro _ _ ⟨oK0, aK0, pK0, tK0, xK0, mK0, cK0, bK0, qK0, psK0, kaK0, kcK0, rfl, rfl, hqK0, hrK0, hlK0, hwK0, hzK0⟩
            refine DJ.norm [_, _, _, _] [_, _, _, _, _, _] rfl rfl ?_
            refine DJ.one (i := 10) (by kernel_rfl) ?_
            refine DO.store (v := .agg #[_, _, _, _, _]) (us := [_, _, _, _, _]) 0 rfl rfl rfl rfl rfl rfl rfl rfl rfl rfl ?_
            refine DJ.done (by kernel_rfl) ?_
            refine ⟨(b63, oK0, aK0, pK0, tK0, xK0, mK0, cK0, bK0, qK0, psK0, kaK0, kcK0), ?_, ?_, ?_, Ent.pick [0, 1, 6, 7, 8, 4, 9] [2, 3, 5] rfl⟩
            · exact ⟨by omega, by omega, hlK0, hwK0, by omega⟩
            · exact ⟨rfl, rfl, rfl, trivial⟩
            · exact ⟨rfl, trivial⟩
          · refine DO.call (pickF _ [1, 2, 3, 4]) (pickF _ [0]) rfl rfl rfl (perm_pickF _ [1, 2, 3, 4] [0] rfl) (fun k0 hk0 dk0 k hk dk => one_ok (l := [3, 2, 4, 1, 0]) (hcode.up) (LitAt.of (l := [3, 2, 4, 1, 0]) hk dk 3 rfl) (by simp) (by omega) (by omega)) ?_
            rintro _ _ ⟨x20, rfl, hx20, rfl⟩
            simp only [List.mem_cons, List.not_mem_nil, or_false] at hx20
            refine DJ.norm [_, _, _, _] [_, _, _, _, _] rfl rfl ?_
            refine DJ.one (i := 2) (by kernel_rfl) ?_
            refine DO.yd rfl rfl rfl (fun _ _ _ => Yd.loadC 0 rfl rfl rfl) ?_
            refine DJ.one (i := 8) (by kernel_rfl) ?_
            refine DO.call (pickF _ [2, 3]) (pickF _ [4, 0, 1]) rfl rfl rfl (perm_pickF _ [2, 3] [4, 0, 1] rfl) (fun k0 hk0 dk0 k hk dk => grow_ok 5 _ _ _ _ _ _ _ _ _ [] _ _ _ _ _ hcode.up (by omega) (by omega) (by simp) (by simp) (by omega) (by omega) (by omega) (by omega) (by omega) (by omega) (by omega)) ?_
            rintro _ _ ⟨oK0, aK0, pK0, tK0, xK0, mK0, cK0, bK0, qK0, psK0, kaK0, kcK0, rfl, rfl, hqK0, hrK0, hlK0, hwK0, hzK0⟩
            refine DJ.norm [_, _, _, _] [_, _, _, _, _, _] rfl rfl ?_
            refine DJ.one (i := 10) (by kernel_rfl) ?_
            refine DO.store (v := .agg #[_, _, _, _, _]) (us := [_, _, _, _, _]) 0 rfl rfl rfl rfl rfl rfl rfl rfl rfl rfl ?_
            refine DJ.done (by kernel_rfl) ?_
            refine ⟨(b63, oK0, aK0, pK0, tK0, xK0, mK0, cK0, bK0, qK0, psK0, kaK0, kcK0), ?_, ?_, ?_, Ent.pick [0, 1, 6, 7, 8, 4, 9] [2, 3, 5] rfl⟩
            · exact ⟨by omega, by omega, hlK0, hwK0, by omega⟩
            · exact ⟨rfl, rfl, rfl, trivial⟩
            · exact ⟨rfl, trivial⟩
      · refine DO.op rfl rfl rfl (fun k0 hk0 dk0 => OpR.buildSlice (cs := [_, _, _, _, _]) rfl rfl) ?_
        rintro _ _ ⟨b68, rfl, rfl⟩
        refine DJ.three (i := 2) (j := 4) (m := 7) (by kernel_rfl) ?_ ?_ ?_
        · refine DO.yd rfl rfl rfl (fun _ _ _ => Yd.loadC 1 rfl rfl rfl) ?_
          refine DJ.two (i := 4) (j := 7) (by kernel_rfl) ?_ ?_
          · refine DO.yd rfl rfl rfl (fun _ _ _ => Yd.loadC 1 rfl rfl rfl) ?_
            refine DJ.one (i := 7) (by kernel_rfl) ?_
            refine DO.call (pickF _ [1, 2, 3, 4]) (pickF _ [0]) rfl rfl rfl (perm_pickF _ [1, 2, 3, 4] [0] rfl) (fun k0 hk0 dk0 k hk dk => one_ok (l := [3, 2, 4, 1, 0]) (hcode.up) (LitAt.of (l := [3, 2, 4, 1, 0]) hk dk 3 rfl) (by simp) (by omega) (by omega)) ?_
            rintro _ _ ⟨x20, rfl, hx20, rfl⟩
            simp only [List.mem_cons, List.not_mem_nil, or_false] at hx20
            refine DJ.norm [_, _, _, _] [_, _, _, _, _] rfl rfl ?_
            refine DJ.one (i := 8) (by kernel_rfl) ?_
            refine DO.call (pickF _ [2, 3]) (pickF _ [4, 0, 1]) rfl rfl rfl (perm_pickF _ [2, 3] [4, 0, 1] rfl) (fun k0 hk0 dk0 k hk dk => grow_ok 5 _ _ _ _ _ _ _ _ _ [] _ _ _ _ _ hcode.up (by omega) (by omega) (by simp) (by simp) (by omega) (by omega) (by omega) (by omega) (by omega) (by omega) (by omega)) ?_
            rintro _ _ ⟨oK0, aK0, pK0, tK0, xK0, mK0, cK0, bK0, qK0, psK0, kaK0, kcK0, rfl, rfl, hqK0, hrK0, hlK0, hwK0, hzK0⟩
            refine DJ.norm [_, _, _, _] [_, _, _, _, _, _] rfl rfl ?_
            refine DJ.one (i := 10) (by kernel_rfl) ?_
            refine DO.store (v := .agg #[_, _, _, _, _]) (us := [_, _, _, _, _]) 0 rfl rfl rfl rfl rfl rfl rfl rfl rfl rfl ?_
            refine DJ.done (by kernel_rfl) ?_
            refine ⟨(b63, oK0, aK0, pK0, tK0, xK0, mK0, cK0, bK0, qK0, psK0, kaK0, kcK0), ?_, ?_, ?_, Ent.pick [0, 1, 6, 7, 8, 4, 9] [2, 3, 5] rfl⟩
            · exact ⟨by omega, by omega, hlK0, hwK0, by omega⟩
            · exact ⟨rfl, rfl, rfl, trivial⟩
            · exact ⟨rfl, trivial⟩
          · refine DO.call (pickF _ [1, 2, 3, 4]) (pickF _ [0]) rfl rfl rfl (perm_pickF _ [1, 2, 3, 4] [0] rfl) (fun k0 hk0 dk0 k hk dk => one_ok (l := [3, 2, 4, 1, 0]) (hcode.up) (LitAt.of (l := [3, 2, 4, 1, 0]) hk dk 3 rfl) (by simp) (by omega) (by omega)) ?_
            rintro _ _ ⟨x20, rfl, hx20, rfl⟩
            simp only [List.mem_cons, List.not_mem_nil, or_false] at hx20
            refine DJ.norm [_, _, _, _] [_, _, _, _, _] rfl rfl ?_
            refine DJ.one (i := 4) (by kernel_rfl) ?_
            refine DO.yd rfl rfl rfl (fun _ _ _ => Yd.loadC 0 rfl rfl rfl) ?_
            refine DJ.one (i := 8) (by kernel_rfl) ?_
            refine DO.call (pickF _ [2, 3]) (pickF _ [4, 0, 1]) rfl rfl rfl (perm_pickF _ [2, 3] [4, 0, 1] rfl) (fun k0 hk0 dk0 k hk dk => grow_ok 5 _ _ _ _ _ _ _ _ _ [] _ _ _ _ _ hcode.up (by omega) (by omega) (by simp) (by simp) (by omega) (by omega) (by omega) (by omega) (by omega) (by omega) (by omega)) ?_
            rintro _ _ ⟨oK0, aK0, pK0, tK0, xK0, mK0, cK0, bK0, qK0, psK0, kaK0, kcK0, rfl, rfl, hqK0, hrK0, hlK0, hwK0, hzK0⟩
            refine DJ.norm [_, _, _, _] [_, _, _, _, _, _] rfl rfl ?_
            refine DJ.one (i := 10) (by kernel_rfl) ?_
            refine DO.store (v := .agg #[_, _, _, _, _]) (us := [_, _, _, _, _]) 0 rfl rfl rfl rfl rfl rfl rfl rfl rfl rfl ?_
            refine DJ.done (by kernel_rfl) ?_
            refine ⟨(b63, oK0, aK0, pK0, tK0, xK0, mK0, cK0, bK0, qK0, psK0, kaK0, kcK0), ?_, ?_, ?_, Ent.pick [0, 1, 6, 7, 8, 4, 9] [2, 3, 5] rfl⟩
            · exact ⟨by omega, by omega, hlK0, hwK0, by omega⟩
            · exact ⟨rfl, rfl, rfl, trivial⟩
            · exact ⟨rfl, trivial⟩
        · refine DO.yd rfl rfl rfl (fun _ _ _ => Yd.loadC 1 rfl rfl rfl) ?_
          refine DJ.two (i := 2) (j := 7) (by kernel_rfl) ?_ ?_
          · refine DO.yd rfl rfl rfl (fun _ _ _ => Yd.loadC 1 rfl rfl rfl) ?_
            refine DJ.one (i := 7) (by kernel_rfl) ?_
            refine DO.call (pickF _ [1, 2, 3, 4]) (pickF _ [0]) rfl rfl rfl (perm_pickF _ [1, 2, 3, 4] [0] rfl) (fun k0 hk0 dk0 k hk dk => one_ok (l := [3, 2, 4, 1, 0]) (hcode.up) (LitAt.of (l := [3, 2, 4, 1, 0]) hk dk 3 rfl) (by simp) (by omega) (by omega)) ?_
            rintro _ _ ⟨x20, rfl, hx20, rfl⟩
            simp only [List.mem_cons, List.not_mem_nil, or_false] at hx20
            refine DJ.norm [_, _, _, _] [_, _, _, _, _] rfl rfl ?_
            refine DJ.one (i := 8) (by kernel_rfl) ?_
            refine DO.call (pickF _ [2, 3]) (pickF _ [4, 0, 1]) rfl rfl rfl (perm_pickF _ [2, 3] [4, 0, 1] rfl) (fun k0 hk0 dk0 k hk dk => grow_ok 5 _ _ _ _ _ _ _ _ _ [] _ _ _ _ _ hcode.up (by omega) (by omega) (by simp) (by simp) (by omega) (by omega) (by omega) (by omega) (by omega) (by omega) (by omega)) ?_
            rintro _ _ ⟨oK0, aK0, pK0, tK0, xK0, mK0, cK0, bK0, qK0, psK0, kaK0, kcK0, rfl, rfl, hqK0, hrK0, hlK0, hwK0, hzK0⟩
            refine DJ.norm [_, _, _, _] [_, _, _, _, _, _] rfl rfl ?_
            refine DJ.one (i := 10) (by kernel_rfl) ?_
            refine DO.store (v := .agg #[_, _, _, _, _]) (us := [_, _, _, _, _]) 0 rfl rfl rfl rfl rfl rfl rfl rfl rfl rfl ?_
            refine DJ.done (by kernel_rfl) ?_
            refine ⟨(b63, oK0, aK0, pK0, tK0, xK0, mK0, cK0, bK0, qK0, psK0, kaK0, kcK0), ?_, ?_, ?_, Ent.pick [0, 1, 6, 7, 8, 4, 9] [2, 3, 5] rfl⟩
            · exact ⟨by omega, by omega, hlK0, hwK0, by omega⟩
            · exact ⟨rfl, rfl, rfl, trivial⟩
            · exact ⟨rfl, trivial⟩
          · refine DO.call (pickF _ [1, 2, 3, 4]) (pickF _ [0]) rfl rfl rfl (perm_pickF _ [1, 2, 3, 4] [0] rfl) (fun k0 hk0 dk0 k hk dk => one_ok (l := [3, 2, 4, 1, 0]) (hcode.up) (LitAt.of (l := [3, 2, 4, 1, 0]) hk dk 3 rfl) (by simp) (by omega) (by omega)) ?_
            rintro _ _ ⟨x20, rfl, hx20, rfl⟩
            simp only [List.mem_cons, List.not_mem_nil, or_false] at hx20
            refine DJ.norm [_, _, _, _] [_, _, _, _, _] rfl rfl ?_
            refine DJ.one (i := 2) (by kernel_rfl) ?_
            refine DO.yd rfl rfl rfl (fun _ _ _ => Yd.loadC 0 rfl rfl rfl) ?_
            refine DJ.one (i := 8) (by kernel_rfl) ?_
            refine DO.call (pickF _ [2, 3]) (pickF _ [4, 0, 1]) rfl rfl rfl (perm_pickF _ [2, 3] [4, 0, 1] rfl) (fun k0 hk0 dk0 k hk dk => grow_ok 5 _ _ _ _ _ _ _ _ _ [] _ _ _ _ _ hcode.up (by omega) (by omega) (by simp) (by simp) (by omega) (by omega) (by omega) (by omega) (by omega) (by omega) (by omega)) ?_
            rintro _ _ ⟨oK0, aK0, pK0, tK0, xK0, mK0, cK0, bK0, qK0, psK0, kaK0, kcK0, rfl, rfl, hqK0, hrK0, hlK0, hwK0, hzK0⟩
            refine DJ.norm [_, _, _, _] [_, _, _, _, _, _] rfl rfl ?_
            refine DJ.one (i := 10) (by kernel_rfl) ?_
            refine DO.store (v := .agg #[_, _, _, _, _]) (us := [_, _, _, _, _]) 0 rfl rfl rfl rfl rfl rfl rfl rfl rfl rfl ?_
            refine DJ.done (by kernel_rfl) ?_
            refine ⟨(b63, oK0, aK0, pK0, tK0, xK0, mK0, cK0, bK0, qK0, psK0, kaK0, kcK0), ?_, ?_, ?_, Ent.pick [0, 1, 6, 7, 8, 4, 9] [2, 3, 5] rfl⟩
            · exact ⟨by omega, by omega, hlK0, hwK0, by omega⟩
            · exact ⟨rfl, rfl, rfl, trivial⟩
            · exact ⟨rfl, trivial⟩
        · refine DO.call (pickF _ [1, 2, 3, 4]) (pickF _ [0]) rfl rfl rfl (perm_pickF _ [1, 2, 3, 4] [0] rfl) (fun k0 hk0 dk0 k hk dk => one_ok (l := [3, 2, 4, 1, 0]) (hcode.up) (LitAt.of (l := [3, 2, 4, 1, 0]) hk dk 3 rfl) (by simp) (by omega) (by omega)) ?_
          rintro _ _ ⟨x20, rfl, hx20, rfl⟩
          simp only [List.mem_cons, List.not_mem_nil, or_false] at hx20
          refine DJ.norm [_, _, _, _] [_, _, _, _, _] rfl rfl ?_
          refine DJ.two (i := 2) (j := 4) (by kernel_rfl) ?_ ?_
          · refine DO.yd rfl rfl rfl (fun _ _ _ => Yd.loadC 0 rfl rfl rfl) ?_
            refine DJ.one (i := 4) (by kernel_rfl) ?_
            refine DO.yd rfl rfl rfl (fun _ _ _ => Yd.loadC 0 rfl rfl rfl) ?_
            refine DJ.one (i := 8) (by kernel_rfl) ?_
            refine DO.call (pickF _ [2, 3]) (pickF _ [4, 0, 1]) rfl rfl rfl (perm_pickF _ [2, 3] [4, 0, 1] rfl) (fun k0 hk0 dk0 k hk dk => grow_ok 5 _ _ _ _ _ _ _ _ _ [] _ _ _ _ _ hcode.up (by omega) (by omega) (by simp) (by simp) (by omega) (by omega) (by omega) (by omega) (by omega) (by omega) (by omega)) ?_
            rintro _ _ ⟨oK0, aK0, pK0, tK0, xK0, mK0, cK0, bK0, qK0, psK0, kaK0, kcK0, rfl, rfl, hqK0, hrK0, hlK0, hwK0, hzK0⟩
            refine DJ.norm [_, _, _, _] [_, _, _, _, _, _] rfl rfl ?_
            refine DJ.one (i := 10) (by kernel_rfl) ?_
            refine DO.store (v := .agg #[_, _, _, _, _]) (us := [_, _, _, _, _]) 0 rfl rfl rfl rfl rfl rfl rfl rfl rfl rfl ?_
            refine DJ.done (by kernel_rfl) ?_
            refine ⟨(b63, oK0, aK0, pK0, tK0, xK0, mK0, cK0, bK0, qK0, psK0, kaK0, kcK0), ?_, ?_, ?_, Ent.pick [0, 1, 6, 7, 8, 4, 9] [2, 3, 5] rfl⟩
            · exact ⟨by omega, by omega, hlK0, hwK0, by omega⟩
            · exact ⟨rfl, rfl, rfl, trivial⟩
            · exact ⟨rfl, trivial⟩
          · refine DO.yd rfl rfl rfl (fun _ _ _ => Yd.loadC 0 rfl rfl rfl) ?_
            refine DJ.one (i := 2) (by kernel_rfl) ?_
            refine DO.yd rfl rfl rfl (fun _ _ _ => Yd.loadC 0 rfl rfl rfl) ?_
            refine DJ.one (i := 8) (by kernel_rfl) ?_
            refine DO.call (pickF _ [2, 3]) (pickF _ [4, 0, 1]) rfl rfl rfl (perm_pickF _ [2, 3] [4, 0, 1] rfl) (fun k0 hk0 dk0 k hk dk => grow_ok 5 _ _ _ _ _ _ _ _ _ [] _ _ _ _ _ hcode.up (by omega) (by omega) (by simp) (by simp) (by omega) (by omega) (by omega) (by omega) (by omega) (by omega) (by omega)) ?_
            rintro _ _ ⟨oK0, aK0, pK0, tK0, xK0, mK0, cK0, bK0, qK0, psK0, kaK0, kcK0, rfl, rfl, hqK0, hrK0, hlK0, hwK0, hzK0⟩
            refine DJ.norm [_, _, _, _] [_, _, _, _, _, _] rfl rfl ?_
            refine DJ.one (i := 10) (by kernel_rfl) ?_
            refine DO.store (v := .agg #[_, _, _, _, _]) (us := [_, _, _, _, _]) 0 rfl rfl rfl rfl rfl rfl rfl rfl rfl rfl ?_
            refine DJ.done (by kernel_rfl) ?_
            refine ⟨(b63, oK0, aK0, pK0, tK0, xK0, mK0, cK0, bK0, qK0, psK0, kaK0, kcK0), ?_, ?_, ?_, Ent.pick [0, 1, 6, 7, 8, 4, 9] [2, 3, 5] rfl⟩
            · exact ⟨by omega, by omega, hlK0, hwK0, by omega⟩
            · exact ⟨rfl, rfl, rfl, trivial⟩
            · exact ⟨rfl, trivial⟩
  · rintro ⟨bb, o, e, i, t, x, m, l, b, q, ps, ka, kc⟩ σ ⟨hq1, hq2, hlK0, hwK0, hzK0⟩
    refine CJ.seq ?_
    refine CJ.regionD [2, 3, 4, 5, 6] [0, 1] (by kernel_rfl) rfl ?_
    refine DJ.norm [_, _, _, _, _] [_, _] rfl rfl ?_
    refine DJ.yd 0 rfl (by kernel_rfl) (by kernel_rfl) (by kernel_rfl) rfl rfl (Yd.loadG (us := [_, _, _]) 1 rfl rfl rfl rfl) ?_
    refine DJ.yd 1 rfl (by kernel_rfl) (by kernel_rfl) (by kernel_rfl) rfl rfl (Yd.loadG (us := [_, _, _, _, _]) 3 rfl rfl rfl rfl) ?_
    refine DJ.one (i := 2) (by kernel_rfl) ?_
    refine DO.store (v := .agg #[_, _, _]) (us := [_, _, _]) 0 rfl rfl rfl rfl rfl rfl rfl rfl rfl rfl ?_
    refine DJ.one (i := 3) (by kernel_rfl) ?_
    refine DO.store (v := .agg #[_, _, _, _, _]) (us := [_, _, _, _, _]) 1 rfl rfl rfl rfl rfl rfl rfl rfl rfl rfl ?_
    refine DJ.done (by kernel_rfl) ?_
    refine CJ.ret ?_
    exact Fin.R [_, _, _] (Res.two (ResV.cell (us := [_, _, _]) 5 rfl rfl rfl rfl) (ResV.cell (us := [_, _, _, _, _]) 6 rfl rfl rfl rfl)) ⟨_, _, _, _, _, _, _, _, _, _, _, _, _, _, _, rfl, rfl, by omega, by omega, by omega, by omega, by omega, by omega, hlK0, hwK0, hzK0⟩ (Ent.thn (Ent.impAt 2 rfl (fun _ r => Row.rd r (by rw [List.length_map]; omega))) (Ent.pick [0, 2, 4] [1, 3, 5, 6] rfl))
end Go.Proofs.Ytfnnhekbgjofoaa
