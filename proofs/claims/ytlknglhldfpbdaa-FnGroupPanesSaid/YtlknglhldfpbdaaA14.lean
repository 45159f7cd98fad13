/-
  The laws on furnaces.
-/
import Derived.Test.YtlknglhldfpbdaaM4
namespace Go.Proofs.Ytlknglhldfpbdaa
open Go
set_option maxRecDepth 20000
set_option maxHeartbeats 1000000

def TimesD (rb : Nat) (a : Option Addr) (n c : Nat) (p : Int) (v : Value) (gs : List HProp) : Prop :=
  ∃ (l : List Int) (aa : Option Addr) (m cc : Nat) (q : Int), v = .slice aa m cc ∧ gs = [Rd rb a n c q, LR encI 3 1 aa cc l] ∧ m = l.length ∧ p ≤ q ∧ q ≤ p + 100 ∧ l.length ≤ 10 ∧ ∀ u ∈ l, -1 ≤ u ∧ u ≤ 501
theorem someTimes_ok {A : Amb} {rb n c : Nat} {a : Option Addr} {p : Int} (hcode : RdCode A.h a n) (hp0 : 0 ≤ p) (hp1 : p ≤ 10000) :
    Ctr Try.prog 58 #[.pointer (some ⟨rb, 0, none⟩)] A [Rd rb a n c p] (TimesD rb a n c p) := by
  refine Ctr.body (args := [_]) Try.func58 rfl Try.ntmps58 Try.results58 (by simp) ?_
  refine CJ.seq ?_
  refine CJ.region ?_
  refine LJ.yd rfl (Yd.asS rfl) ?_
  refine LJ.nil ?_
  refine CJ.seq ?_
  refine CJ.region ?_
  refine LJ.op rfl (OpR.buildSlice (cs := []) rfl rfl) ?_
  rintro _ _ ⟨b1, rfl, rfl⟩
  refine LJ.yd rfl (Yd.asS rfl) ?_
  refine LJ.nil ?_
  refine CJ.seq ?_
  refine CJ.seq ?_
  refine CJ.region ?_
  refine LJ.yd rfl (Yd.mvP rfl) ?_
  refine LJ.op rfl (OpR.buildSlice (cs := [_, _, _, _, _, _]) rfl rfl) ?_
  rintro _ _ ⟨b2, rfl, rfl⟩
  refine LJ.call (pickF _ [1, 2]) (pickF _ [0]) rfl (perm_pickF _ [1, 2] [0] rfl) (fun k hk dk => one_ok (l := [5, 7, 3, 1, 0, 10]) (hcode.up) (LitAt.of (l := [5, 7, 3, 1, 0, 10]) hk dk 1 rfl) (by simp) (by omega) (by omega)) ?_
  rintro _ _ ⟨x8, rfl, hx8, rfl⟩
  simp only [List.mem_cons, List.not_mem_nil, or_false] at hx8
  refine LJ.norm [_, _, _] rfl ?_
  refine LJ.yd rfl (Yd.asI rfl) ?_
  refine LJ.nil ?_
  refine CJ.block ?_
  refine CJ.imp1 0 rfl (fun _ h => Cel.lr (enc := encI) (k := 1) (m := 0) [] rfl rfl rfl rfl h) ?_
  refine CJ.norm [_, _, _] rfl ?_
  refine CJ.loopF [0, 2] (Int × Int × List Int × Option Addr × Nat × Nat) (fun ⟨m, q, l, lA, lN, lC⟩ => (lN = l.length) ∧ 0 ≤ m ∧ m + l.length ≤ 10 ∧ p ≤ q ∧ q + 2 * m ≤ p + 40 ∧ ∀ u ∈ l, -1 ≤ u ∧ u ≤ 501) (fun ⟨m, q, l, lA, lN, lC⟩ => [(4, vI m), (3, .slice lA lN lC)]) (fun ⟨m, q, l, lA, lN, lC⟩ => [LR encI 3 1 lA lC l, Rd rb a n c q]) (fun ⟨m, q, l, lA, lN, lC⟩ => m.toNat) (x8, p + 1, [], _, _, _) [_] [1] [0, 2] rfl rfl rfl ?_ ⟨rfl, rfl, trivial⟩ ?_
  · exact ⟨(by first | rfl | omega | (simp; done) | (simp; omega) | (simp [upN_len]; omega) | (simp [idxBy_len]; omega) | (simp [marks_len]; omega) | (simp [upN_len]; done) | (simp [idxBy_len]; done) | (simp [marks_len]; done) | (simp at *; omega)), ⟨by omega, by simp; omega, by omega, by omega, by simp⟩⟩
  · rintro ⟨m, q, l, lA, lN, lC⟩ σ ⟨hlNl, ⟨hm0, hml, hq0, hq1, hlm⟩⟩
    subst hlNl
    refine CJ.norm [_, _, _] rfl ?_
    refine CJ.seq ?_
    refine CJ.seq ?_
    refine CJ.region ?_
    refine LJ.yd rfl (Yd.mvI rfl) ?_
    refine LJ.splitD rfl (Yd.gtr rfl rfl) (fun h10 => ?_) (fun h10 => ?_)
    · refine LJ.nil ?_
      refine CJ.condT rfl ?_
      refine CJ.skip ?_
      refine CJ.seq ?_
      refine CJ.block ?_
      refine CJ.region ?_
      refine LJ.yd rfl (Yd.mvS rfl) ?_
      refine LJ.yd rfl (Yd.mvP rfl) ?_
      refine LJ.yd rfl (Yd.mvP rfl) ?_
      refine LJ.call (pickF _ [0, 1]) (pickF _ [2]) rfl (perm_pickF _ [0, 1] [2] rfl) (fun k hk dk => pick_ok (hcode.up) (by omega) (by omega)) ?_
      rintro _ _ ⟨x16, rfl, hx16, hy16, rfl⟩
      refine LJ.norm [_, _, _] rfl ?_
      refine LJ.yd rfl (Yd.add rfl rfl (by unfold I64; omega)) ?_
      refine LJ.op rfl (OpR.buildSlice (cs := [_, _, _, _, _]) rfl rfl) ?_
      rintro _ _ ⟨b3, rfl, rfl⟩
      refine LJ.call (pickF _ [0, 1, 3]) (pickF _ [2]) rfl (perm_pickF _ [0, 1, 3] [2] rfl) (fun k hk dk => one_ok (l := [10, 20, 1 + x16, 0, 35]) (hcode.up) (LitAt.of (l := [10, 20, 1 + x16, 0, 35]) hk dk 2 rfl) (by simp) (by omega) (by omega)) ?_
      rintro _ _ ⟨x19, rfl, hx19, rfl⟩
      simp only [List.mem_cons, List.not_mem_nil, or_false] at hx19
      refine LJ.norm [_, _, _, _] rfl ?_
      refine LJ.op rfl (OpR.buildSlice (cs := [_]) rfl rfl) ?_
      rintro _ _ ⟨b4, rfl, rfl⟩
      refine LJ.op rfl (OpR.apT (enc := encI) [_] 1 4 rfl rfl rfl (by first | rfl | omega | (simp; done) | (simp; omega) | (simp [upN_len]; omega) | (simp [idxBy_len]; omega) | (simp [marks_len]; omega) | (simp [upN_len]; done) | (simp [idxBy_len]; done) | (simp [marks_len]; done) | (simp at *; omega)) rfl rfl rfl rfl rfl (by first | rfl | omega | (simp; done) | (simp; omega) | (simp [upN_len]; omega) | (simp [idxBy_len]; omega) | (simp [marks_len]; omega) | (simp [upN_len]; done) | (simp [idxBy_len]; done) | (simp [marks_len]; done) | (simp at *; omega))) ?_
      rintro _ _ ⟨ra21, rc21, rfl, rfl⟩
      refine LJ.norm [_, _, _, _, _] rfl ?_
      refine LJ.yd rfl (Yd.asS rfl) ?_
      refine LJ.nil ?_
      refine CJ.region ?_
      refine LJ.yd rfl (Yd.mvI rfl) ?_
      refine LJ.yd rfl (Yd.sub rfl rfl (by unfold I64; omega)) ?_
      refine LJ.yd rfl (Yd.asI rfl) ?_
      refine LJ.nil ?_
      refine ⟨(_, _, _, _, _, _), ?_, ⟨rfl, rfl, trivial⟩, ⟨rfl, rfl, trivial⟩, Ent.pick [0, 1, 3] [2, 4] rfl, ?_⟩
      · refine ⟨(by first | rfl | omega | (simp; done) | (simp; omega) | (simp [upN_len]; omega) | (simp [idxBy_len]; omega) | (simp [marks_len]; omega) | (simp [upN_len]; done) | (simp [idxBy_len]; done) | (simp [marks_len]; done) | (simp at *; omega)), ?_⟩
        exact ⟨by omega, by simp; omega, by omega, by omega, mem_snoc hlm (by omega)⟩
      · first | omega | (dsimp only; omega) | (simp only []; omega)
    · refine LJ.nil ?_
      refine CJ.condF rfl ?_
      refine CJ.exit ?_
      refine CJ.seq ?_
      refine CJ.seq ?_
      refine CJ.region ?_
      refine LJ.yd rfl (Yd.mvS rfl) ?_
      refine LJ.yd rfl (Yd.len rfl) ?_
      refine LJ.splitD rfl (Yd.gtr rfl rfl) (fun h24 => ?_) (fun h24 => ?_)
      · refine LJ.yd rfl (Yd.mvB rfl) ?_
        refine LJ.gT rfl ?_
        refine LJ.yd rfl (Yd.mvP rfl) ?_
        refine LJ.gT rfl ?_
        refine LJ.call (pickF _ [0, 1]) (pickF _ [2]) rfl (perm_pickF _ [0, 1] [2] rfl) (fun k hk dk => pick_ok (hcode.up) (by omega) (by omega)) ?_
        rintro _ _ ⟨x27, rfl, hx27, hy27, rfl⟩
        refine LJ.norm [_, _, _] rfl ?_
        refine LJ.gT rfl ?_
        refine LJ.splitD rfl (Yd.eql rfl rfl) (fun h28 => ?_) (fun h28 => ?_)
        · refine LJ.yd rfl (Yd.pickTB rfl rfl) ?_
          refine LJ.nil ?_
          refine CJ.condT rfl ?_
          refine CJ.region ?_
          refine LJ.yd rfl (Yd.mvS rfl) ?_
          refine LJ.yd rfl (Yd.mvP rfl) ?_
          refine LJ.op rfl (OpR.buildSlice (cs := [_, _]) rfl rfl) ?_
          rintro _ _ ⟨b5, rfl, rfl⟩
          refine LJ.call (pickF _ [0, 1, 3]) (pickF _ [2]) rfl (perm_pickF _ [0, 1, 3] [2] rfl) (fun k hk dk => one_ok (l := [-1, 501]) (hcode.up) (LitAt.of (l := [-1, 501]) hk dk 2 rfl) (by simp) (by omega) (by omega)) ?_
          rintro _ _ ⟨x33, rfl, hx33, rfl⟩
          simp only [List.mem_cons, List.not_mem_nil, or_false] at hx33
          refine LJ.norm [_, _, _, _] rfl ?_
          refine LJ.idxR 1 rfl rfl rfl rfl (by omega) (by first | rfl | omega | (simp; done) | (simp; omega) | (simp [upN_len]; omega) | (simp [idxBy_len]; omega) | (simp [marks_len]; omega) | (simp [upN_len]; done) | (simp [idxBy_len]; done) | (simp [marks_len]; done) | (simp at *; omega)) (by first | rfl | omega | (simp; done) | (simp; omega) | (simp [upN_len]; omega) | (simp [idxBy_len]; omega) | (simp [marks_len]; omega) | (simp [upN_len]; done) | (simp [idxBy_len]; done) | (simp [marks_len]; done) | (simp at *; omega)) (fun ib34 ia34 => ?_)
          refine LJ.op rfl (OpR.st1 (enc := encI) (e1 := fun u => vI u) 1 (fun _ => rfl) (fun _ => rfl) (fun _ => rfl) rfl ia34 rfl rfl rfl (by first | rfl | omega | (simp; done) | (simp; omega) | (simp [upN_len]; omega) | (simp [idxBy_len]; omega) | (simp [marks_len]; omega) | (simp [upN_len]; done) | (simp [idxBy_len]; done) | (simp [marks_len]; done) | (simp at *; omega))) ?_
          rintro _ _ ⟨rfl, rfl⟩
          refine LJ.norm [_, _, _, _] rfl ?_
          refine LJ.nil ?_
          refine CJ.seq ?_
          refine CJ.region ?_
          refine LJ.yd rfl (Yd.mvS rfl) ?_
          refine LJ.yd rfl (Yd.asS rfl) ?_
          refine LJ.nil ?_
          refine CJ.ret ?_
          exact Fin.R [_, _] (Res.one (ResV.tmp (v := .slice _ _ _) rfl)) ⟨_, _, _, _, _, rfl, rfl, by first | rfl | simp, by omega, by omega, by first | omega | (simp; omega), by first | exact mem_set1 hlm (by omega) | exact hlm⟩ (Ent.pick [3, 1] [0, 2] rfl)
        · refine LJ.yd rfl (Yd.pickTB rfl rfl) ?_
          refine LJ.nil ?_
          refine CJ.condF rfl ?_
          refine CJ.skip ?_
          refine CJ.seq ?_
          refine CJ.region ?_
          refine LJ.yd rfl (Yd.mvS rfl) ?_
          refine LJ.yd rfl (Yd.asS rfl) ?_
          refine LJ.nil ?_
          refine CJ.ret ?_
          exact Fin.R [_, _] (Res.one (ResV.tmp (v := .slice _ _ _) rfl)) ⟨_, _, _, _, _, rfl, rfl, by first | rfl | simp, by omega, by omega, by first | omega | (simp; omega), by first | exact mem_set1 hlm (by omega) | exact hlm⟩ (Ent.pick [2, 1] [0] rfl)
      · refine LJ.yd rfl (Yd.mvB rfl) ?_
        refine LJ.gF rfl rfl ?_
        refine LJ.gF rfl rfl ?_
        refine LJ.gF rfl rfl ?_
        refine LJ.yd rfl (Yd.pickFB rfl rfl) ?_
        refine LJ.nil ?_
        refine CJ.condF rfl ?_
        refine CJ.skip ?_
        refine CJ.seq ?_
        refine CJ.region ?_
        refine LJ.yd rfl (Yd.mvS rfl) ?_
        refine LJ.yd rfl (Yd.asS rfl) ?_
        refine LJ.nil ?_
        refine CJ.ret ?_
        exact Fin.R [_, _] (Res.one (ResV.tmp (v := .slice _ _ _) rfl)) ⟨_, _, _, _, _, rfl, rfl, by first | rfl | simp, by omega, by omega, by first | omega | (simp; omega), by first | exact mem_set1 hlm (by omega) | exact hlm⟩ (Ent.pick [2, 1] [0] rfl)
def FireL (v : Value) (gs : List HProp) : Prop :=
  ∃ (l g : List Int) (room : Int) (aa : Option Addr) (m cc : Nat) (ba : Option Addr) (k bc : Nat), v = .tuple #[.slice aa m cc, .slice ba k bc, vI room] ∧ gs = [LR encI 3 1 aa cc l, LR encI 3 1 ba bc g] ∧ m = l.length ∧ k = g.length ∧ l.length ≤ 10 ∧ g.length ≤ 10 ∧ 0 ≤ room ∧ room ≤ 17 ∧ ∀ u ∈ l, -1 ≤ u ∧ u ≤ 501
theorem DrawFireTime_ok {A : Amb} {a : Option Addr} {n c : Nat} (h : Code A.h a n c) : Ctr Try.prog 28 #[.slice a n c] A [] FireL := by
  obtain ⟨hcode, hn, ha, hs⟩ := h
  refine Ctr.body (args := [_]) Try.func28 rfl Try.ntmps28 Try.results28 (by simp) ?_
  refine CJ.seq ?_
  refine CJ.region ?_
  refine LJ.yd rfl (Yd.asS rfl) ?_
  refine LJ.yd rfl (Yd.asS rfl) ?_
  refine LJ.yd rfl (Yd.asI rfl) ?_
  refine LJ.nil ?_
  refine CJ.seq ?_
  refine CJ.region ?_
  refine LJ.yd rfl (Yd.mvS rfl) ?_
  refine LJ.call0 rfl (fun k hk dk => newReader_ok hn hcode.up ha hs) ?_
  rintro _ _ ⟨rb, n2, rfl, hn1, hn2, rfl⟩
  have hcode2 := hcode.le hn2
  refine LJ.yd rfl (Yd.asP rfl) ?_
  refine LJ.nil ?_
  refine CJ.seq ?_
  refine CJ.region ?_
  refine LJ.yd rfl (Yd.mvP rfl) ?_
  refine LJ.call (pickF _ []) (pickF _ [0]) rfl (perm_pickF _ [] [0] rfl) (fun k hk dk => someTimes_ok hcode2.up (by omega) (by omega)) ?_
  rintro _ _ ⟨l, aa, m, cc, q, rfl, rfl, rfl, hq0, hq1, hl1, hl2⟩
  refine LJ.norm [_, _] rfl ?_
  refine LJ.yd rfl (Yd.asS rfl) ?_
  refine LJ.nil ?_
  refine CJ.seq ?_
  refine CJ.region ?_
  refine LJ.op rfl (OpR.buildSlice (cs := []) rfl rfl) ?_
  rintro _ _ ⟨b1, rfl, rfl⟩
  refine LJ.yd rfl (Yd.asS rfl) ?_
  refine LJ.nil ?_
  refine CJ.seq ?_
  refine CJ.seq ?_
  refine CJ.region ?_
  refine LJ.yd rfl (Yd.asI rfl) ?_
  refine LJ.nil ?_
  refine CJ.block ?_
  refine CJ.imp1 2 rfl (fun _ h => Cel.lr (enc := encI) (k := 1) (m := 0) [] rfl rfl rfl rfl h) ?_
  refine CJ.norm [_, _, _] rfl ?_
  refine CJ.loopF [2, 3, 4, 5, 6] (Nat × Int × List Int × Option Addr × Nat × Nat) (fun ⟨k, p, g, gA, gN, gC⟩ => (gN = g.length) ∧ k ≤ l.length ∧ q ≤ p ∧ p ≤ q + k ∧ g.length = k) (fun ⟨k, p, g, gA, gN, gC⟩ => [(8, vI k), (7, .slice gA gN gC)]) (fun ⟨k, p, g, gA, gN, gC⟩ => [LR encI 3 1 gA gC g, Rd rb a n2 c p]) (fun ⟨k, p, g, gA, gN, gC⟩ => l.length - k) (0, q, [], _, _, _) [_] [1] [2, 0] rfl rfl rfl ?_ ⟨rfl, rfl, trivial⟩ ?_
  · exact ⟨(by first | rfl | omega | (simp; done) | (simp; omega) | (simp [upN_len]; omega) | (simp [idxBy_len]; omega) | (simp [marks_len]; omega) | (simp [upN_len]; done) | (simp [idxBy_len]; done) | (simp [marks_len]; done) | (simp at *; omega)), ⟨by omega, by omega, by omega, rfl⟩⟩
  · rintro ⟨k, p, g, gA, gN, gC⟩ σ ⟨hlNg, ⟨hk1, hp0, hp1, hgl⟩⟩
    subst hlNg
    refine CJ.norm [_, _, _] rfl ?_
    refine CJ.seq ?_
    refine CJ.seq ?_
    refine CJ.region ?_
    refine LJ.yd rfl (Yd.mvI rfl) ?_
    refine LJ.yd rfl (Yd.mvS rfl) ?_
    refine LJ.yd rfl (Yd.len rfl) ?_
    refine LJ.splitD rfl (Yd.lss rfl rfl) (fun h17 => ?_) (fun h17 => ?_)
    · refine LJ.nil ?_
      refine CJ.condT rfl ?_
      refine CJ.skip ?_
      refine CJ.seq ?_
      refine CJ.block ?_
      refine CJ.region ?_
      refine LJ.yd rfl (Yd.mvS rfl) ?_
      refine LJ.yd rfl (Yd.mvP rfl) ?_
      refine LJ.call (pickF _ [0, 1]) (pickF _ [2]) rfl (perm_pickF _ [0, 1] [2] rfl) (fun k hk dk => pick_ok (hcode2.up) (by omega) (by omega)) ?_
      rintro _ _ ⟨x22, rfl, hx22, hy22, rfl⟩
      refine LJ.norm [_, _, _] rfl ?_
      refine LJ.op rfl (OpR.buildSlice (cs := [_]) rfl rfl) ?_
      rintro _ _ ⟨b2, rfl, rfl⟩
      refine LJ.op rfl (OpR.apT (enc := encI) [_] 1 3 rfl rfl rfl (by first | rfl | omega | (simp; done) | (simp; omega) | (simp [upN_len]; omega) | (simp [idxBy_len]; omega) | (simp [marks_len]; omega) | (simp [upN_len]; done) | (simp [idxBy_len]; done) | (simp [marks_len]; done) | (simp at *; omega)) rfl rfl rfl rfl rfl (by first | rfl | omega | (simp; done) | (simp; omega) | (simp [upN_len]; omega) | (simp [idxBy_len]; omega) | (simp [marks_len]; omega) | (simp [upN_len]; done) | (simp [idxBy_len]; done) | (simp [marks_len]; done) | (simp at *; omega))) ?_
      rintro _ _ ⟨ra24, rc24, rfl, rfl⟩
      refine LJ.norm [_, _, _, _] rfl ?_
      refine LJ.yd rfl (Yd.asS rfl) ?_
      refine LJ.nil ?_
      refine CJ.region ?_
      refine LJ.yd rfl (Yd.mvI rfl) ?_
      refine LJ.yd rfl (Yd.add rfl rfl (by unfold I64; omega)) ?_
      refine LJ.yd rfl (Yd.asI rfl) ?_
      refine LJ.nil ?_
      refine ⟨(k + 1, _, _, _, _, _), ?_, ⟨rfl, rfl, rfl, rfl, rfl, trivial⟩, ⟨rfl, rfl, trivial⟩, Ent.pick [0, 1, 2] [3] rfl, ?_⟩
      · refine ⟨(by first | rfl | omega | (simp; done) | (simp; omega) | (simp [upN_len]; omega) | (simp [idxBy_len]; omega) | (simp [marks_len]; omega) | (simp [upN_len]; done) | (simp [idxBy_len]; done) | (simp [marks_len]; done) | (simp at *; omega)), ?_⟩
        refine ⟨by omega, ?_⟩
        exact ⟨by omega, by omega, by simp [hgl]⟩
      · first | omega | (dsimp only; omega) | (simp only []; omega)
    · refine LJ.nil ?_
      refine CJ.condF rfl ?_
      refine CJ.exit ?_
      refine CJ.seq ?_
      refine CJ.seq ?_
      refine CJ.region ?_
      refine LJ.yd rfl (Yd.mvS rfl) ?_
      refine LJ.yd rfl (Yd.len rfl) ?_
      refine LJ.splitD rfl (Yd.gtr rfl rfl) (fun h27 => ?_) (fun h27 => ?_)
      · refine LJ.yd rfl (Yd.mvB rfl) ?_
        refine LJ.gT rfl ?_
        refine LJ.yd rfl (Yd.mvP rfl) ?_
        refine LJ.gT rfl ?_
        refine LJ.call (pickF _ [0, 1]) (pickF _ [2]) rfl (perm_pickF _ [0, 1] [2] rfl) (fun k hk dk => pick_ok (hcode2.up) (by omega) (by omega)) ?_
        rintro _ _ ⟨x30, rfl, hx30, hy30, rfl⟩
        refine LJ.norm [_, _, _] rfl ?_
        refine LJ.gT rfl ?_
        refine LJ.splitD rfl (Yd.eql rfl rfl) (fun h31 => ?_) (fun h31 => ?_)
        · refine LJ.yd rfl (Yd.pickTB rfl rfl) ?_
          refine LJ.nil ?_
          refine CJ.condT rfl ?_
          refine CJ.region ?_
          refine LJ.yd rfl (Yd.mvS rfl) ?_
          refine LJ.yd rfl (Yd.mvP rfl) ?_
          refine LJ.op rfl (OpR.buildSlice (cs := [_, _]) rfl rfl) ?_
          rintro _ _ ⟨b3, rfl, rfl⟩
          refine LJ.call (pickF _ [0, 1, 3]) (pickF _ [2]) rfl (perm_pickF _ [0, 1, 3] [2] rfl) (fun k hk dk => one_ok (l := [-1, 16]) (hcode2.up) (LitAt.of (l := [-1, 16]) hk dk 2 rfl) (by simp) (by omega) (by omega)) ?_
          rintro _ _ ⟨x36, rfl, hx36, rfl⟩
          simp only [List.mem_cons, List.not_mem_nil, or_false] at hx36
          refine LJ.norm [_, _, _, _] rfl ?_
          refine LJ.idxR 1 rfl rfl rfl rfl (by omega) (by first | rfl | omega | (simp; done) | (simp; omega) | (simp [upN_len]; omega) | (simp [idxBy_len]; omega) | (simp [marks_len]; omega) | (simp [upN_len]; done) | (simp [idxBy_len]; done) | (simp [marks_len]; done) | (simp at *; omega)) (by first | rfl | omega | (simp; done) | (simp; omega) | (simp [upN_len]; omega) | (simp [idxBy_len]; omega) | (simp [marks_len]; omega) | (simp [upN_len]; done) | (simp [idxBy_len]; done) | (simp [marks_len]; done) | (simp at *; omega)) (fun ib37 ia37 => ?_)
          refine LJ.op rfl (OpR.st1 (enc := encI) (e1 := fun u => vI u) 1 (fun _ => rfl) (fun _ => rfl) (fun _ => rfl) rfl ia37 rfl rfl rfl (by first | rfl | omega | (simp; done) | (simp; omega) | (simp [upN_len]; omega) | (simp [idxBy_len]; omega) | (simp [marks_len]; omega) | (simp [upN_len]; done) | (simp [idxBy_len]; done) | (simp [marks_len]; done) | (simp at *; omega))) ?_
          rintro _ _ ⟨rfl, rfl⟩
          refine LJ.norm [_, _, _, _] rfl ?_
          refine LJ.nil ?_
          refine CJ.seq ?_
          refine CJ.region ?_
          refine LJ.yd rfl (Yd.mvS rfl) ?_
          refine LJ.yd rfl (Yd.mvS rfl) ?_
          refine LJ.yd rfl (Yd.mvP rfl) ?_
          refine LJ.op rfl (OpR.buildSlice (cs := [_, _, _, _, _, _]) rfl rfl) ?_
          rintro _ _ ⟨b4, rfl, rfl⟩
          refine LJ.call (pickF _ [0, 1, 2, 4]) (pickF _ [3]) rfl (perm_pickF _ [0, 1, 2, 4] [3] rfl) (fun k hk dk => one_ok (l := [3, 4, 2, 10, 0, 17]) (hcode2.up) (LitAt.of (l := [3, 4, 2, 10, 0, 17]) hk dk 3 rfl) (by simp) (by omega) (by omega)) ?_
          rintro _ _ ⟨x42, rfl, hx42, rfl⟩
          simp only [List.mem_cons, List.not_mem_nil, or_false] at hx42
          refine LJ.norm [_, _, _, _, _] rfl ?_
          refine LJ.yd rfl (Yd.asS rfl) ?_
          refine LJ.yd rfl (Yd.asS rfl) ?_
          refine LJ.yd rfl (Yd.asI rfl) ?_
          refine LJ.nil ?_
          refine CJ.ret ?_
          exact Fin.R [_, _] (Res.three (ResV.tmp (v := .slice _ _ _) rfl) (ResV.tmp (v := .slice _ _ _) rfl) (ResV.tmp (v := .int _ _) rfl)) ⟨_, _, _, _, _, _, _, _, _, rfl, rfl, rfl, by first | rfl | simp, hl1, by first | omega | (simp; omega), by omega, by omega, hl2⟩ (Ent.pick [0, 1] [2, 3, 4] rfl)
        · refine LJ.yd rfl (Yd.pickTB rfl rfl) ?_
          refine LJ.nil ?_
          refine CJ.condF rfl ?_
          refine CJ.skip ?_
          refine CJ.seq ?_
          refine CJ.region ?_
          refine LJ.yd rfl (Yd.mvS rfl) ?_
          refine LJ.yd rfl (Yd.mvS rfl) ?_
          refine LJ.yd rfl (Yd.mvP rfl) ?_
          refine LJ.op rfl (OpR.buildSlice (cs := [_, _, _, _, _, _]) rfl rfl) ?_
          rintro _ _ ⟨b5, rfl, rfl⟩
          refine LJ.call (pickF _ [0, 1, 3]) (pickF _ [2]) rfl (perm_pickF _ [0, 1, 3] [2] rfl) (fun k hk dk => one_ok (l := [3, 4, 2, 10, 0, 17]) (hcode2.up) (LitAt.of (l := [3, 4, 2, 10, 0, 17]) hk dk 2 rfl) (by simp) (by omega) (by omega)) ?_
          rintro _ _ ⟨x42, rfl, hx42, rfl⟩
          simp only [List.mem_cons, List.not_mem_nil, or_false] at hx42
          refine LJ.norm [_, _, _, _] rfl ?_
          refine LJ.yd rfl (Yd.asS rfl) ?_
          refine LJ.yd rfl (Yd.asS rfl) ?_
          refine LJ.yd rfl (Yd.asI rfl) ?_
          refine LJ.nil ?_
          refine CJ.ret ?_
          exact Fin.R [_, _] (Res.three (ResV.tmp (v := .slice _ _ _) rfl) (ResV.tmp (v := .slice _ _ _) rfl) (ResV.tmp (v := .int _ _) rfl)) ⟨_, _, _, _, _, _, _, _, _, rfl, rfl, rfl, by first | rfl | simp, hl1, by first | omega | (simp; omega), by omega, by omega, hl2⟩ (Ent.pick [0, 1] [2, 3] rfl)
      · refine LJ.yd rfl (Yd.mvB rfl) ?_
        refine LJ.gF rfl rfl ?_
        refine LJ.gF rfl rfl ?_
        refine LJ.gF rfl rfl ?_
        refine LJ.yd rfl (Yd.pickFB rfl rfl) ?_
        refine LJ.nil ?_
        refine CJ.condF rfl ?_
        refine CJ.skip ?_
        refine CJ.seq ?_
        refine CJ.region ?_
        refine LJ.yd rfl (Yd.mvS rfl) ?_
        refine LJ.yd rfl (Yd.mvS rfl) ?_
        refine LJ.yd rfl (Yd.mvP rfl) ?_
        refine LJ.op rfl (OpR.buildSlice (cs := [_, _, _, _, _, _]) rfl rfl) ?_
        rintro _ _ ⟨b6, rfl, rfl⟩
        refine LJ.call (pickF _ [0, 1, 3]) (pickF _ [2]) rfl (perm_pickF _ [0, 1, 3] [2] rfl) (fun k hk dk => one_ok (l := [3, 4, 2, 10, 0, 17]) (hcode2.up) (LitAt.of (l := [3, 4, 2, 10, 0, 17]) hk dk 2 rfl) (by simp) (by omega) (by omega)) ?_
        rintro _ _ ⟨x42, rfl, hx42, rfl⟩
        simp only [List.mem_cons, List.not_mem_nil, or_false] at hx42
        refine LJ.norm [_, _, _, _] rfl ?_
        refine LJ.yd rfl (Yd.asS rfl) ?_
        refine LJ.yd rfl (Yd.asS rfl) ?_
        refine LJ.yd rfl (Yd.asI rfl) ?_
        refine LJ.nil ?_
        refine CJ.ret ?_
        exact Fin.R [_, _] (Res.three (ResV.tmp (v := .slice _ _ _) rfl) (ResV.tmp (v := .slice _ _ _) rfl) (ResV.tmp (v := .int _ _) rfl)) ⟨_, _, _, _, _, _, _, _, _, rfl, rfl, rfl, by first | rfl | simp, hl1, by first | omega | (simp; omega), by omega, by omega, hl2⟩ (Ent.pick [0, 1] [2, 3] rfl)
def TimesL (v : Value) (gs : List HProp) : Prop :=
  ∃ (l : List Int) (room : Int) (aa : Option Addr) (m cc : Nat), v = .tuple #[.slice aa m cc, vI room] ∧ gs = [LR encI 3 1 aa cc l] ∧ m = l.length ∧ l.length ≤ 10 ∧ 0 ≤ room ∧ room ≤ 17 ∧ ∀ u ∈ l, -1 ≤ u ∧ u ≤ 501
theorem DrawGroupPanes_ok {A : Amb} {a : Option Addr} {n c : Nat} (h : Code A.h a n c) : Ctr Try.prog 33 #[.slice a n c] A [] TimesL := by
  obtain ⟨hcode, hn, ha, hs⟩ := h
  refine Ctr.body (args := [_]) Try.func33 rfl Try.ntmps33 Try.results33 (by simp) ?_
  refine CJ.seq ?_
  refine CJ.region ?_
  refine LJ.yd rfl (Yd.asS rfl) ?_
  refine LJ.yd rfl (Yd.asI rfl) ?_
  refine LJ.nil ?_
  refine CJ.seq ?_
  refine CJ.region ?_
  refine LJ.yd rfl (Yd.mvS rfl) ?_
  refine LJ.call0 rfl (fun k hk dk => newReader_ok hn hcode.up ha hs) ?_
  rintro _ _ ⟨rb, n2, rfl, hn1, hn2, rfl⟩
  have hcode2 := hcode.le hn2
  refine LJ.yd rfl (Yd.asP rfl) ?_
  refine LJ.nil ?_
  refine CJ.seq ?_
  refine CJ.region ?_
  refine LJ.yd rfl (Yd.mvP rfl) ?_
  refine LJ.call (pickF _ []) (pickF _ [0]) rfl (perm_pickF _ [] [0] rfl) (fun k hk dk => someTimes_ok hcode2.up (by omega) (by omega)) ?_
  rintro _ _ ⟨l, aa, m, cc, q, rfl, rfl, rfl, hq0, hq1, hl1, hl2⟩
  refine LJ.norm [_, _] rfl ?_
  refine LJ.yd rfl (Yd.mvP rfl) ?_
  refine LJ.op rfl (OpR.buildSlice (cs := [_, _, _, _, _, _, _]) rfl rfl) ?_
  rintro _ _ ⟨b1, rfl, rfl⟩
  refine LJ.call (pickF _ [1, 2]) (pickF _ [0]) rfl (perm_pickF _ [1, 2] [0] rfl) (fun k hk dk => one_ok (l := [2, 3, 1, 4, 16, 0, 17]) (hcode2.up) (LitAt.of (l := [2, 3, 1, 4, 16, 0, 17]) hk dk 1 rfl) (by simp) (by omega) (by omega)) ?_
  rintro _ _ ⟨x11, rfl, hx11, rfl⟩
  simp only [List.mem_cons, List.not_mem_nil, or_false] at hx11
  refine LJ.norm [_, _, _] rfl ?_
  refine LJ.yd rfl (Yd.asS rfl) ?_
  refine LJ.yd rfl (Yd.asI rfl) ?_
  refine LJ.nil ?_
  refine CJ.ret ?_
  exact Fin.R [_] (Res.two (ResV.tmp (v := .slice _ _ _) rfl) (ResV.tmp (v := .int _ _) rfl)) ⟨_, _, _, _, _, rfl, rfl, rfl, hl1, by omega, by omega, hl2⟩ (Ent.pick [0] [1, 2] rfl)
theorem total_ok {A : Amb} {v : Value} {l : List Int} (hl : RdL encI 1 A.h v l) (hb : ∀ u ∈ l, -1 ≤ u ∧ u ≤ 501) (hn : l.length ≤ 1000) : Ctr Try.prog 31 #[v] A [] (Val (vI (totI l))) := by
  obtain ⟨la, lc, rfl, hlb, hl⟩ := hl.un
  refine Ctr.body (args := [_]) Try.func31 rfl Try.ntmps31 Try.results31 (by simp) ?_
  refine CJ.seq ?_
  refine CJ.region ?_
  refine LJ.yd rfl (Yd.asI rfl) ?_
  refine LJ.nil ?_
  refine CJ.seq ?_
  refine CJ.region ?_
  refine LJ.yd rfl (Yd.asI rfl) ?_
  refine LJ.nil ?_
  refine CJ.seq ?_
  refine CJ.seq ?_
  refine CJ.region ?_
  refine LJ.yd rfl (Yd.asI rfl) ?_
  refine LJ.nil ?_
  refine CJ.block ?_
  refine CJ.loopK [0, 2] (Nat × Int) (fun ⟨k, x⟩ => k ≤ l.length ∧ x + totI (l.drop k) = totI l ∧ -1 * k ≤ x ∧ x ≤ 501 * k) (fun ⟨k, x⟩ => [(4, vI k), (3, vI x)]) (fun ⟨k, x⟩ => l.length - k) (0, 0) ?_ ⟨rfl, rfl, trivial⟩ ?_
  · exact ⟨by omega, by simp, by omega, by omega⟩
  · rintro ⟨k, x⟩ σ ⟨hk1, hx, hx0, hx1⟩
    refine CJ.seq ?_
    refine CJ.seq ?_
    refine CJ.region ?_
    refine LJ.yd rfl (Yd.mvI rfl) ?_
    refine LJ.yd rfl (Yd.mvS rfl) ?_
    refine LJ.yd rfl (Yd.len rfl) ?_
    refine LJ.splitD rfl (Yd.lss rfl rfl) (fun h8 => ?_) (fun h8 => ?_)
    · refine LJ.nil ?_
      refine CJ.condT rfl ?_
      refine CJ.skip ?_
      refine CJ.seq ?_
      refine CJ.block ?_
      refine CJ.region ?_
      refine LJ.yd rfl (Yd.mvI rfl) ?_
      refine LJ.yd rfl (Yd.mvS rfl) ?_
      refine LJ.yd rfl (Yd.mvI rfl) ?_
      refine LJ.idxA rfl hl rfl rfl (by omega) (by first | rfl | omega | (simp; done) | (simp; omega) | (simp [upN_len]; omega) | (simp [idxBy_len]; omega) | (simp [marks_len]; omega) | (simp [upN_len]; done) | (simp [idxBy_len]; done) | (simp [marks_len]; done) | (simp at *; omega)) (fun ib14 io14 ia14 ir14 => ?_)
      refine LJ.ldA 0 (fun u => vI u) (fun _ => rfl) ir14 rfl rfl rfl (by first | rfl | omega | (simp; done) | (simp; omega) | (simp [upN_len]; omega) | (simp [idxBy_len]; omega) | (simp [marks_len]; omega) | (simp [upN_len]; done) | (simp [idxBy_len]; done) | (simp [marks_len]; done) | (simp at *; omega)) (fun u15 hu15 => ?_)
      try simp only [Int.toNat_natCast] at hu15
      have hf15 := hb u15 (List.mem_of_getElem? hu15)
      refine LJ.yd rfl (Yd.add rfl rfl (by unfold I64; omega)) ?_
      refine LJ.yd rfl (Yd.asI rfl) ?_
      refine LJ.nil ?_
      refine CJ.region ?_
      refine LJ.yd rfl (Yd.mvI rfl) ?_
      refine LJ.yd rfl (Yd.add rfl rfl (by unfold I64; omega)) ?_
      refine LJ.yd rfl (Yd.asI rfl) ?_
      refine LJ.nil ?_
      refine ⟨(k + 1, _), ?_, ⟨rfl, rfl, trivial⟩, ⟨rfl, rfl, trivial⟩, Ent.refl _, ?_⟩
      · refine ⟨by omega, ?_⟩
        rw [dropC hu15, totI] at hx; exact ⟨by omega, by omega, by omega⟩
      · first | omega | (dsimp only; omega) | (simp only []; omega)
    · refine LJ.nil ?_
      refine CJ.condF rfl ?_
      refine CJ.exit ?_
      refine CJ.seq ?_
      refine CJ.region ?_
      refine LJ.yd rfl (Yd.mvI rfl) ?_
      refine LJ.yd rfl (Yd.asI rfl) ?_
      refine LJ.nil ?_
      refine CJ.ret ?_
      refine Fin.V (Res.one (ResV.tmp (v := .int _ _) rfl)) ?_
      rw [List.drop_of_length_le (by omega), totI] at hx; rw [← hx]; congr 1; omega
theorem FireTime_v {A : Amb} {v w : Value} {t r : List Int} {room x : Int} (hl : RdL encI 1 A.h v t) (hg : RdL encI 1 A.h w r) (e : ftR t r room = x) : Ctr Try.prog 29 #[v, w, vI room] A [] (Val (vI x)) := e ▸ FireTimeI_ok hl hg
theorem gpR_len (l : List Int) (room : Int) : (gpR l room).length ≤ l.length := by
  unfold gpR
  split
  · rw [gpOf_len]; exact Nat.le_refl _
  · simp
theorem gpR_t {l : List Int} {room : Int} (ht : timesOk l = true) (h0 : 1 ≤ room) (h1 : room ≤ 16) : gpR l room = gpOf l room := if_pos ⟨ht, h0, h1⟩
theorem ft_gp {l : List Int} {room : Int} (ht : timesOk l = true) (h0 : 1 ≤ room) (h1 : room ≤ 16) : ftR l (gpR l room) room = fsN l (gpOf l room) 16 := by
  rw [gpR_t ht h0 h1, ftR, if_pos (gp_ok ht h0 h1)]
theorem FnFireTime_ok {A : Amb} {a : Option Addr} {n c : Nat} (hc : Code A.h a n c) : Ctr Try.prog 7 #[.slice a n c] A [] (Val (.bool true)) := by
  refine Ctr.body (args := [_]) Try.func7 rfl Try.ntmps7 Try.results7 (by simp) ?_
  refine CJ.seq ?_
  refine CJ.region ?_
  refine LJ.yd rfl (Yd.asB rfl) ?_
  refine LJ.nil ?_
  refine CJ.seq ?_
  refine CJ.seq ?_
  refine CJ.region ?_
  refine LJ.yd rfl (Yd.mvS rfl) ?_
  refine LJ.yd rfl (Yd.len rfl) ?_
  refine LJ.splitD rfl (Yd.gtr rfl rfl) (fun h9 => ?_) (fun h9 => ?_)
  · refine LJ.nil ?_
    refine CJ.condT rfl ?_
    refine CJ.seq ?_
    refine CJ.region ?_
    refine LJ.yd rfl (Yd.asB rfl) ?_
    refine LJ.nil ?_
    refine CJ.ret ?_
    refine Fin.V (Res.one (ResV.tmp (v := .bool true) rfl)) ?_
    rfl
  · refine LJ.nil ?_
    refine CJ.condF rfl ?_
    refine CJ.skip ?_
    refine CJ.seq ?_
    refine CJ.region ?_
    refine LJ.yd rfl (Yd.mvS rfl) ?_
    refine LJ.call0 rfl (fun k hk dk => DrawFireTime_ok hc.up) ?_
    rintro _ _ ⟨l, g, room, aa, m, cc, ba, k, bc, rfl, rfl, rfl, rfl, hl1, hg1, hr0, hr1, hl2⟩
    refine LJ.norm [_, _] rfl ?_
    refine LJ.yd rfl (Yd.mvU rfl) ?_
    refine LJ.yd rfl (Yd.extract rfl rfl) ?_
    refine LJ.yd rfl (Yd.extract rfl rfl) ?_
    refine LJ.yd rfl (Yd.extract rfl rfl) ?_
    refine LJ.yd rfl (Yd.asS rfl) ?_
    refine LJ.yd rfl (Yd.asS rfl) ?_
    refine LJ.yd rfl (Yd.asI rfl) ?_
    refine LJ.nil ?_
    refine CJ.seq ?_
    refine CJ.region ?_
    refine LJ.yd rfl (Yd.mvS rfl) ?_
    refine LJ.yd rfl (Yd.mvS rfl) ?_
    refine LJ.yd rfl (Yd.mvI rfl) ?_
    refine LJ.callV rfl (fun k hk dk => FireTimeI_ok (Sts.lrm hk dk 0 (by first | rfl | omega | (simp; done) | (simp; omega) | (simp [upN_len]; omega) | (simp [idxBy_len]; omega) | (simp [marks_len]; omega) | (simp [upN_len]; done) | (simp [idxBy_len]; done) | (simp [marks_len]; done) | (simp at *; omega)) (by first | rfl | omega | (simp; done) | (simp; omega) | (simp [upN_len]; omega) | (simp [idxBy_len]; omega) | (simp [marks_len]; omega) | (simp [upN_len]; done) | (simp [idxBy_len]; done) | (simp [marks_len]; done) | (simp at *; omega)) rfl) (Sts.lrm hk dk 1 (by first | rfl | omega | (simp; done) | (simp; omega) | (simp [upN_len]; omega) | (simp [idxBy_len]; omega) | (simp [marks_len]; omega) | (simp [upN_len]; done) | (simp [idxBy_len]; done) | (simp [marks_len]; done) | (simp at *; omega)) (by first | rfl | omega | (simp; done) | (simp; omega) | (simp [upN_len]; omega) | (simp [idxBy_len]; omega) | (simp [marks_len]; omega) | (simp [upN_len]; done) | (simp [idxBy_len]; done) | (simp [marks_len]; done) | (simp at *; omega)) rfl)) ?_
    refine LJ.yd rfl (Yd.asI rfl) ?_
    refine LJ.nil ?_
    refine CJ.seq ?_
    refine CJ.seq ?_
    refine CJ.region ?_
    refine LJ.yd rfl (Yd.mvI rfl) ?_
    refine LJ.yd rfl (Yd.mvS rfl) ?_
    refine LJ.yd rfl (Yd.mvS rfl) ?_
    refine LJ.yd rfl (Yd.mvI rfl) ?_
    refine LJ.callV rfl (fun k hk dk => FireTimeS_ok (Sts.lrm hk dk 0 (by first | rfl | omega | (simp; done) | (simp; omega) | (simp [upN_len]; omega) | (simp [idxBy_len]; omega) | (simp [marks_len]; omega) | (simp [upN_len]; done) | (simp [idxBy_len]; done) | (simp [marks_len]; done) | (simp at *; omega)) (by first | rfl | omega | (simp; done) | (simp; omega) | (simp [upN_len]; omega) | (simp [idxBy_len]; omega) | (simp [marks_len]; omega) | (simp [upN_len]; done) | (simp [idxBy_len]; done) | (simp [marks_len]; done) | (simp at *; omega)) rfl) (Sts.lrm hk dk 1 (by first | rfl | omega | (simp; done) | (simp; omega) | (simp [upN_len]; omega) | (simp [idxBy_len]; omega) | (simp [marks_len]; omega) | (simp [upN_len]; done) | (simp [idxBy_len]; done) | (simp [marks_len]; done) | (simp at *; omega)) (by first | rfl | omega | (simp; done) | (simp; omega) | (simp [upN_len]; omega) | (simp [idxBy_len]; omega) | (simp [marks_len]; omega) | (simp [upN_len]; done) | (simp [idxBy_len]; done) | (simp [marks_len]; done) | (simp at *; omega)) rfl)) ?_
    refine LJ.splitN rfl (Yd.neq rfl rfl) (fun h25 => ?_) (fun h25 => ?_)
    · exfalso; omega
    · refine LJ.yd rfl (Yd.mvB rfl) ?_
      refine LJ.gT rfl ?_
      refine LJ.yd rfl (Yd.mvI rfl) ?_
      refine LJ.gT rfl ?_
      refine LJ.splitD rfl (Yd.lss rfl rfl) (fun h28 => ?_) (fun h28 => ?_)
      · refine LJ.yd rfl (Yd.pickFB rfl rfl) ?_
        refine LJ.nil ?_
        refine CJ.condT rfl ?_
        refine CJ.seq ?_
        refine CJ.region ?_
        refine LJ.yd rfl (Yd.mvI rfl) ?_
        refine LJ.yd rfl (Yd.mvS rfl) ?_
        refine LJ.yd rfl (Yd.mvS rfl) ?_
        refine LJ.yd rfl (Yd.mvI rfl) ?_
        refine LJ.callV rfl (fun k hk dk => FireTimeS_ok (Sts.lrm hk dk 0 (by first | rfl | omega | (simp; done) | (simp; omega) | (simp [upN_len]; omega) | (simp [idxBy_len]; omega) | (simp [marks_len]; omega) | (simp [upN_len]; done) | (simp [idxBy_len]; done) | (simp [marks_len]; done) | (simp at *; omega)) (by first | rfl | omega | (simp; done) | (simp; omega) | (simp [upN_len]; omega) | (simp [idxBy_len]; omega) | (simp [marks_len]; omega) | (simp [upN_len]; done) | (simp [idxBy_len]; done) | (simp [marks_len]; done) | (simp at *; omega)) rfl) (Sts.lrm hk dk 1 (by first | rfl | omega | (simp; done) | (simp; omega) | (simp [upN_len]; omega) | (simp [idxBy_len]; omega) | (simp [marks_len]; omega) | (simp [upN_len]; done) | (simp [idxBy_len]; done) | (simp [marks_len]; done) | (simp at *; omega)) (by first | rfl | omega | (simp; done) | (simp; omega) | (simp [upN_len]; omega) | (simp [idxBy_len]; omega) | (simp [marks_len]; omega) | (simp [upN_len]; done) | (simp [idxBy_len]; done) | (simp [marks_len]; done) | (simp at *; omega)) rfl)) ?_
        refine LJ.splitD rfl (Yd.eql rfl rfl) (fun h35 => ?_) (fun h35 => ?_)
        · refine LJ.yd rfl (Yd.asB rfl) ?_
          refine LJ.nil ?_
          refine CJ.ret ?_
          refine Fin.V (Res.one (ResV.tmp (v := .bool true) rfl)) ?_
          rfl
        · exfalso; omega
      · refine LJ.yd rfl (Yd.pickFB rfl rfl) ?_
        refine LJ.nil ?_
        refine CJ.condF rfl ?_
        refine CJ.skip ?_
        refine CJ.seq ?_
        have hg : grpOk l g room = true := by
          cases hb : grpOk l g room with
          | true => rfl
          | false => exfalso; rw [ftR, hb] at h28; exact h28 (by rw [if_neg (by decide)]; decide)
        have h := grpOk_iff.1 hg
        have hto : timesOk l = true := timesOk_iff.2 h.1
        have hgl := gpR_len l room
        have e0 : ftR l g room = fsN l g 16 := if_pos hg
        have q1 := gp_best hg
        have q2 := fs_tot hg
        have q3 := fs_mx hg
        refine CJ.region ?_
        refine LJ.yd rfl (Yd.mvI rfl) ?_
        refine LJ.yd rfl (Yd.mvS rfl) ?_
        refine LJ.yd rfl (Yd.mvS rfl) ?_
        refine LJ.yd rfl (Yd.mvI rfl) ?_
        refine LJ.call0 rfl (fun k hk dk => GroupPanesI_ok (Sts.lrm hk dk 0 (by first | rfl | omega | (simp; done) | (simp; omega) | (simp [upN_len]; omega) | (simp [idxBy_len]; omega) | (simp [marks_len]; omega) | (simp [upN_len]; done) | (simp [idxBy_len]; done) | (simp [marks_len]; done) | (simp at *; omega)) (by first | rfl | omega | (simp; done) | (simp; omega) | (simp [upN_len]; omega) | (simp [idxBy_len]; omega) | (simp [marks_len]; omega) | (simp [upN_len]; done) | (simp [idxBy_len]; done) | (simp [marks_len]; done) | (simp at *; omega)) rfl)) ?_
        rintro _ _ ⟨ra40, rc40, rfl, rfl⟩
        refine LJ.norm [_, _, _] rfl ?_
        refine LJ.yd rfl (Yd.mvI rfl) ?_
        refine LJ.callV rfl (fun k hk dk => FireTime_v (Sts.lrm hk dk 0 (by first | rfl | omega | (simp; done) | (simp; omega) | (simp [upN_len]; omega) | (simp [idxBy_len]; omega) | (simp [marks_len]; omega) | (simp [upN_len]; done) | (simp [idxBy_len]; done) | (simp [marks_len]; done) | (simp at *; omega)) (by first | rfl | omega | (simp; done) | (simp; omega) | (simp [upN_len]; omega) | (simp [idxBy_len]; omega) | (simp [marks_len]; omega) | (simp [upN_len]; done) | (simp [idxBy_len]; done) | (simp [marks_len]; done) | (simp at *; omega)) rfl) (Sts.lrm hk dk 2 (by first | rfl | omega | (simp; done) | (simp; omega) | (simp [upN_len]; omega) | (simp [idxBy_len]; omega) | (simp [marks_len]; omega) | (simp [upN_len]; done) | (simp [idxBy_len]; done) | (simp [marks_len]; done) | (simp at *; omega)) (by first | rfl | omega | (simp; done) | (simp; omega) | (simp [upN_len]; omega) | (simp [idxBy_len]; omega) | (simp [marks_len]; omega) | (simp [upN_len]; done) | (simp [idxBy_len]; done) | (simp [marks_len]; done) | (simp at *; omega)) rfl) (ft_gp hto h.2.1.2.1 h.2.1.2.2)) ?_
        refine LJ.splitD rfl (Yd.geq rfl rfl) (fun h43 => ?_) (fun h43 => ?_)
        · refine LJ.yd rfl (Yd.mvB rfl) ?_
          refine LJ.gT rfl ?_
          refine LJ.yd rfl (Yd.mvI rfl) ?_
          refine LJ.gT rfl ?_
          refine LJ.yd rfl (Yd.mvS rfl) ?_
          refine LJ.gT rfl ?_
          refine LJ.callV rfl (fun k hk dk => total_ok (Sts.lrm hk dk 0 (by first | rfl | omega | (simp; done) | (simp; omega) | (simp [upN_len]; omega) | (simp [idxBy_len]; omega) | (simp [marks_len]; omega) | (simp [upN_len]; done) | (simp [idxBy_len]; done) | (simp [marks_len]; done) | (simp at *; omega)) (by first | rfl | omega | (simp; done) | (simp; omega) | (simp [upN_len]; omega) | (simp [idxBy_len]; omega) | (simp [marks_len]; omega) | (simp [upN_len]; done) | (simp [idxBy_len]; done) | (simp [marks_len]; done) | (simp at *; omega)) rfl) hl2 (by omega)) ?_
          refine LJ.gT rfl ?_
          refine LJ.splitD rfl (Yd.leq rfl rfl) (fun h48 => ?_) (fun h48 => ?_)
          · refine LJ.yd rfl (Yd.pickTB rfl rfl) ?_
            refine LJ.yd rfl (Yd.mvB rfl) ?_
            refine LJ.gT rfl ?_
            refine LJ.yd rfl (Yd.mvI rfl) ?_
            refine LJ.gT rfl ?_
            refine LJ.yd rfl (Yd.mvS rfl) ?_
            refine LJ.gT rfl ?_
            refine LJ.callV rfl (fun k hk dk => highest_ok (Sts.lrm hk dk 0 (by first | rfl | omega | (simp; done) | (simp; omega) | (simp [upN_len]; omega) | (simp [idxBy_len]; omega) | (simp [marks_len]; omega) | (simp [upN_len]; done) | (simp [idxBy_len]; done) | (simp [marks_len]; done) | (simp at *; omega)) (by first | rfl | omega | (simp; done) | (simp; omega) | (simp [upN_len]; omega) | (simp [idxBy_len]; omega) | (simp [marks_len]; omega) | (simp [upN_len]; done) | (simp [idxBy_len]; done) | (simp [marks_len]; done) | (simp at *; omega)) rfl)) ?_
            refine LJ.gT rfl ?_
            refine LJ.splitD rfl (Yd.geq rfl rfl) (fun h54 => ?_) (fun h54 => ?_)
            · refine LJ.yd rfl (Yd.pickTB rfl rfl) ?_
              refine LJ.yd rfl (Yd.asB rfl) ?_
              refine LJ.nil ?_
              refine CJ.ret ?_
              refine Fin.V (Res.one (ResV.tmp (v := .bool true) rfl)) ?_
              rfl
            · exfalso; omega
          · exfalso; omega
        · exfalso; omega
theorem FnGroupPanes_ok {A : Amb} {a : Option Addr} {n c : Nat} (hc : Code A.h a n c) : Ctr Try.prog 9 #[.slice a n c] A [] (Val (.bool true)) := by
  refine Ctr.body (args := [_]) Try.func9 rfl Try.ntmps9 Try.results9 (by simp) ?_
  refine CJ.seq ?_
  refine CJ.region ?_
  refine LJ.yd rfl (Yd.asB rfl) ?_
  refine LJ.nil ?_
  refine CJ.seq ?_
  refine CJ.seq ?_
  refine CJ.region ?_
  refine LJ.yd rfl (Yd.mvS rfl) ?_
  refine LJ.yd rfl (Yd.len rfl) ?_
  refine LJ.splitD rfl (Yd.gtr rfl rfl) (fun h10 => ?_) (fun h10 => ?_)
  · refine LJ.nil ?_
    refine CJ.condT rfl ?_
    refine CJ.seq ?_
    refine CJ.region ?_
    refine LJ.yd rfl (Yd.asB rfl) ?_
    refine LJ.nil ?_
    refine CJ.ret ?_
    refine Fin.V (Res.one (ResV.tmp (v := .bool true) rfl)) ?_
    rfl
  · refine LJ.nil ?_
    refine CJ.condF rfl ?_
    refine CJ.skip ?_
    refine CJ.seq ?_
    refine CJ.region ?_
    refine LJ.yd rfl (Yd.mvS rfl) ?_
    refine LJ.call0 rfl (fun k hk dk => DrawGroupPanes_ok hc.up) ?_
    rintro _ _ ⟨l, room, aa, m, cc, rfl, rfl, rfl, hl1, hr0, hr1, hl2⟩
    refine LJ.norm [_] rfl ?_
    refine LJ.yd rfl (Yd.mvU rfl) ?_
    refine LJ.yd rfl (Yd.extract rfl rfl) ?_
    refine LJ.yd rfl (Yd.extract rfl rfl) ?_
    refine LJ.yd rfl (Yd.asS rfl) ?_
    refine LJ.yd rfl (Yd.asI rfl) ?_
    refine LJ.nil ?_
    refine CJ.seq ?_
    have hgl := gpR_len l room
    have hgl1 := gpR_len l 1
    have hgl2 := gpR_len l (room + 1)
    refine CJ.region ?_
    refine LJ.yd rfl (Yd.mvS rfl) ?_
    refine LJ.yd rfl (Yd.mvI rfl) ?_
    refine LJ.call0 rfl (fun k hk dk => GroupPanesI_ok (Sts.lrm hk dk 0 (by first | rfl | omega | (simp; done) | (simp; omega) | (simp [upN_len]; omega) | (simp [idxBy_len]; omega) | (simp [marks_len]; omega) | (simp [upN_len]; done) | (simp [idxBy_len]; done) | (simp [marks_len]; done) | (simp at *; omega)) (by first | rfl | omega | (simp; done) | (simp; omega) | (simp [upN_len]; omega) | (simp [idxBy_len]; omega) | (simp [marks_len]; omega) | (simp [upN_len]; done) | (simp [idxBy_len]; done) | (simp [marks_len]; done) | (simp at *; omega)) rfl)) ?_
    rintro _ _ ⟨ra18, rc18, rfl, rfl⟩
    refine LJ.norm [_, _] rfl ?_
    refine LJ.yd rfl (Yd.asS rfl) ?_
    refine LJ.nil ?_
    refine CJ.seq ?_
    refine CJ.seq ?_
    refine CJ.region ?_
    refine LJ.yd rfl (Yd.mvS rfl) ?_
    refine LJ.yd rfl (Yd.mvS rfl) ?_
    refine LJ.yd rfl (Yd.mvI rfl) ?_
    refine LJ.call0 rfl (fun k hk dk => GroupPanesS_ok (Sts.lrm hk dk 0 (by first | rfl | omega | (simp; done) | (simp; omega) | (simp [upN_len]; omega) | (simp [idxBy_len]; omega) | (simp [marks_len]; omega) | (simp [upN_len]; done) | (simp [idxBy_len]; done) | (simp [marks_len]; done) | (simp at *; omega)) (by first | rfl | omega | (simp; done) | (simp; omega) | (simp [upN_len]; omega) | (simp [idxBy_len]; omega) | (simp [marks_len]; omega) | (simp [upN_len]; done) | (simp [idxBy_len]; done) | (simp [marks_len]; done) | (simp at *; omega)) rfl) (by omega)) ?_
    rintro _ _ ⟨ra22, rc22, rfl, rfl⟩
    refine LJ.norm [_, _, _] rfl ?_
    refine LJ.callV rfl (fun k hk dk => equalInts_eq (Sts.lrm hk dk 1 (by first | rfl | omega | (simp; done) | (simp; omega) | (simp [upN_len]; omega) | (simp [idxBy_len]; omega) | (simp [marks_len]; omega) | (simp [upN_len]; done) | (simp [idxBy_len]; done) | (simp [marks_len]; done) | (simp at *; omega)) (by first | rfl | omega | (simp; done) | (simp; omega) | (simp [upN_len]; omega) | (simp [idxBy_len]; omega) | (simp [marks_len]; omega) | (simp [upN_len]; done) | (simp [idxBy_len]; done) | (simp [marks_len]; done) | (simp at *; omega)) rfl) (Sts.lrm hk dk 2 (by first | rfl | omega | (simp; done) | (simp; omega) | (simp [upN_len]; omega) | (simp [idxBy_len]; omega) | (simp [marks_len]; omega) | (simp [upN_len]; done) | (simp [idxBy_len]; done) | (simp [marks_len]; done) | (simp at *; omega)) (by first | rfl | omega | (simp; done) | (simp; omega) | (simp [upN_len]; omega) | (simp [idxBy_len]; omega) | (simp [marks_len]; omega) | (simp [upN_len]; done) | (simp [idxBy_len]; done) | (simp [marks_len]; done) | (simp at *; omega)) rfl)) ?_
    refine LJ.yd rfl (Yd.not rfl) ?_
    refine LJ.yd rfl (Yd.mvB rfl) ?_
    refine LJ.gT rfl ?_
    refine LJ.yd rfl (Yd.mvS rfl) ?_
    refine LJ.gT rfl ?_
    refine LJ.yd rfl (Yd.len rfl) ?_
    refine LJ.gT rfl ?_
    refine LJ.splitD rfl (Yd.eql rfl rfl) (fun h28 => ?_) (fun h28 => ?_)
    · refine LJ.yd rfl (Yd.pickFB rfl rfl) ?_
      refine LJ.nil ?_
      refine CJ.condT rfl ?_
      refine CJ.seq ?_
      refine CJ.region ?_
      refine LJ.yd rfl (Yd.mvS rfl) ?_
      refine LJ.yd rfl (Yd.mvS rfl) ?_
      refine LJ.yd rfl (Yd.mvI rfl) ?_
      refine LJ.call0 rfl (fun k hk dk => GroupPanesS_ok (Sts.lrm hk dk 0 (by first | rfl | omega | (simp; done) | (simp; omega) | (simp [upN_len]; omega) | (simp [idxBy_len]; omega) | (simp [marks_len]; omega) | (simp [upN_len]; done) | (simp [idxBy_len]; done) | (simp [marks_len]; done) | (simp at *; omega)) (by first | rfl | omega | (simp; done) | (simp; omega) | (simp [upN_len]; omega) | (simp [idxBy_len]; omega) | (simp [marks_len]; omega) | (simp [upN_len]; done) | (simp [idxBy_len]; done) | (simp [marks_len]; done) | (simp at *; omega)) rfl) (by omega)) ?_
      rintro _ _ ⟨ra33, rc33, rfl, rfl⟩
      refine LJ.norm [_, _, _, _] rfl ?_
      refine LJ.callV rfl (fun k hk dk => equalInts_eq (Sts.lrm hk dk 1 (by first | rfl | omega | (simp; done) | (simp; omega) | (simp [upN_len]; omega) | (simp [idxBy_len]; omega) | (simp [marks_len]; omega) | (simp [upN_len]; done) | (simp [idxBy_len]; done) | (simp [marks_len]; done) | (simp at *; omega)) (by first | rfl | omega | (simp; done) | (simp; omega) | (simp [upN_len]; omega) | (simp [idxBy_len]; omega) | (simp [marks_len]; omega) | (simp [upN_len]; done) | (simp [idxBy_len]; done) | (simp [marks_len]; done) | (simp at *; omega)) rfl) (Sts.lrm hk dk 3 (by first | rfl | omega | (simp; done) | (simp; omega) | (simp [upN_len]; omega) | (simp [idxBy_len]; omega) | (simp [marks_len]; omega) | (simp [upN_len]; done) | (simp [idxBy_len]; done) | (simp [marks_len]; done) | (simp at *; omega)) (by first | rfl | omega | (simp; done) | (simp; omega) | (simp [upN_len]; omega) | (simp [idxBy_len]; omega) | (simp [marks_len]; omega) | (simp [upN_len]; done) | (simp [idxBy_len]; done) | (simp [marks_len]; done) | (simp at *; omega)) rfl)) ?_
      refine LJ.yd rfl (Yd.asB rfl) ?_
      refine LJ.nil ?_
      refine CJ.ret ?_
      refine Fin.V (Res.one (ResV.tmp (v := .bool true) rfl)) ?_
      rfl
    · refine LJ.yd rfl (Yd.pickFB rfl rfl) ?_
      refine LJ.nil ?_
      refine CJ.condF rfl ?_
      refine CJ.skip ?_
      refine CJ.seq ?_
      have h : timesOk l = true ∧ 1 ≤ room ∧ room ≤ 16 := Decidable.byContradiction fun hn => h28 (by rw [gpR, if_neg hn]; rfl)
      have q0 := (fsN_b (t := l) (r := gpOf l room) (fun u hu => ((timesOk_iff.1 h.1).2 u hu).2) 16).1
      have q1 := gp_one h.1
      have q2 : room ≠ 16 → fsN l (gpOf l (room + 1)) 16 ≤ fsN l (gpOf l room) 16 := fun hne => gp_more h.1 h.2.1 (by omega)
      refine CJ.region ?_
      refine LJ.yd rfl (Yd.mvS rfl) ?_
      refine LJ.yd rfl (Yd.mvS rfl) ?_
      refine LJ.yd rfl (Yd.mvI rfl) ?_
      refine LJ.callV rfl (fun k hk dk => FireTime_v (Sts.lrm hk dk 0 (by first | rfl | omega | (simp; done) | (simp; omega) | (simp [upN_len]; omega) | (simp [idxBy_len]; omega) | (simp [marks_len]; omega) | (simp [upN_len]; done) | (simp [idxBy_len]; done) | (simp [marks_len]; done) | (simp at *; omega)) (by first | rfl | omega | (simp; done) | (simp; omega) | (simp [upN_len]; omega) | (simp [idxBy_len]; omega) | (simp [marks_len]; omega) | (simp [upN_len]; done) | (simp [idxBy_len]; done) | (simp [marks_len]; done) | (simp at *; omega)) rfl) (Sts.lrm hk dk 1 (by first | rfl | omega | (simp; done) | (simp; omega) | (simp [upN_len]; omega) | (simp [idxBy_len]; omega) | (simp [marks_len]; omega) | (simp [upN_len]; done) | (simp [idxBy_len]; done) | (simp [marks_len]; done) | (simp at *; omega)) (by first | rfl | omega | (simp; done) | (simp; omega) | (simp [upN_len]; omega) | (simp [idxBy_len]; omega) | (simp [marks_len]; omega) | (simp [upN_len]; done) | (simp [idxBy_len]; done) | (simp [marks_len]; done) | (simp at *; omega)) rfl) (ft_gp h.1 h.2.1 h.2.2)) ?_
      refine LJ.yd rfl (Yd.asI rfl) ?_
      refine LJ.nil ?_
      refine CJ.seq ?_
      refine CJ.region ?_
      refine LJ.yd rfl (Yd.mvS rfl) ?_
      refine LJ.yd rfl (Yd.mvS rfl) ?_
      refine LJ.call0 rfl (fun k hk dk => GroupPanesI_ok (Sts.lrm hk dk 0 (by first | rfl | omega | (simp; done) | (simp; omega) | (simp [upN_len]; omega) | (simp [idxBy_len]; omega) | (simp [marks_len]; omega) | (simp [upN_len]; done) | (simp [idxBy_len]; done) | (simp [marks_len]; done) | (simp at *; omega)) (by first | rfl | omega | (simp; done) | (simp; omega) | (simp [upN_len]; omega) | (simp [idxBy_len]; omega) | (simp [marks_len]; omega) | (simp [upN_len]; done) | (simp [idxBy_len]; done) | (simp [marks_len]; done) | (simp at *; omega)) rfl)) ?_
      rintro _ _ ⟨ra41, rc41, rfl, rfl⟩
      refine LJ.norm [_, _, _, _] rfl ?_
      refine LJ.callV rfl (fun k hk dk => FireTime_v (Sts.lrm hk dk 0 (by first | rfl | omega | (simp; done) | (simp; omega) | (simp [upN_len]; omega) | (simp [idxBy_len]; omega) | (simp [marks_len]; omega) | (simp [upN_len]; done) | (simp [idxBy_len]; done) | (simp [marks_len]; done) | (simp at *; omega)) (by first | rfl | omega | (simp; done) | (simp; omega) | (simp [upN_len]; omega) | (simp [idxBy_len]; omega) | (simp [marks_len]; omega) | (simp [upN_len]; done) | (simp [idxBy_len]; done) | (simp [marks_len]; done) | (simp at *; omega)) rfl) (Sts.lrm hk dk 3 (by first | rfl | omega | (simp; done) | (simp; omega) | (simp [upN_len]; omega) | (simp [idxBy_len]; omega) | (simp [marks_len]; omega) | (simp [upN_len]; done) | (simp [idxBy_len]; done) | (simp [marks_len]; done) | (simp at *; omega)) (by first | rfl | omega | (simp; done) | (simp; omega) | (simp [upN_len]; omega) | (simp [idxBy_len]; omega) | (simp [marks_len]; omega) | (simp [upN_len]; done) | (simp [idxBy_len]; done) | (simp [marks_len]; done) | (simp at *; omega)) rfl) (ft_gp h.1 (by omega) (by omega))) ?_
      refine LJ.yd rfl (Yd.asI rfl) ?_
      refine LJ.nil ?_
      refine CJ.seq ?_
      refine CJ.region ?_
      refine LJ.yd rfl (Yd.mvI rfl) ?_
      refine LJ.splitD rfl (Yd.geq rfl rfl) (fun h44 => ?_) (fun h44 => ?_)
      · refine LJ.yd rfl (Yd.mvB rfl) ?_
        refine LJ.gT rfl ?_
        refine LJ.yd rfl (Yd.mvI rfl) ?_
        refine LJ.gT rfl ?_
        refine LJ.yd rfl (Yd.mvS rfl) ?_
        refine LJ.gT rfl ?_
        refine LJ.callV rfl (fun k hk dk => total_ok (Sts.lrm hk dk 0 (by first | rfl | omega | (simp; done) | (simp; omega) | (simp [upN_len]; omega) | (simp [idxBy_len]; omega) | (simp [marks_len]; omega) | (simp [upN_len]; done) | (simp [idxBy_len]; done) | (simp [marks_len]; done) | (simp at *; omega)) (by first | rfl | omega | (simp; done) | (simp; omega) | (simp [upN_len]; omega) | (simp [idxBy_len]; omega) | (simp [marks_len]; omega) | (simp [upN_len]; done) | (simp [idxBy_len]; done) | (simp [marks_len]; done) | (simp at *; omega)) rfl) hl2 (by omega)) ?_
        refine LJ.gT rfl ?_
        refine LJ.splitD rfl (Yd.eql rfl rfl) (fun h49 => ?_) (fun h49 => ?_)
        · refine LJ.yd rfl (Yd.pickTB rfl rfl) ?_
          refine LJ.yd rfl (Yd.mvB rfl) ?_
          refine LJ.gT rfl ?_
          refine LJ.yd rfl (Yd.mvI rfl) ?_
          refine LJ.gT rfl ?_
          refine LJ.splitD rfl (Yd.eql rfl rfl) (fun h53 => ?_) (fun h53 => ?_)
          · refine LJ.gT rfl ?_
            refine LJ.yd rfl (Yd.mvB rfl) ?_
            refine LJ.gF rfl rfl ?_
            refine LJ.gF rfl rfl ?_
            refine LJ.gF rfl rfl ?_
            refine LJ.gF rfl rfl ?_
            refine LJ.gF rfl rfl ?_
            refine LJ.gF rfl rfl ?_
            refine LJ.gF rfl rfl ?_
            refine LJ.gF rfl rfl ?_
            refine LJ.gF rfl rfl ?_
            refine LJ.gF rfl rfl ?_
            refine LJ.gT rfl ?_
            refine LJ.yd rfl (Yd.pickTB rfl rfl) ?_
            refine LJ.yd rfl (Yd.pickTB rfl rfl) ?_
            refine LJ.yd rfl (Yd.asB rfl) ?_
            refine LJ.nil ?_
            refine CJ.ret ?_
            refine Fin.V (Res.one (ResV.tmp (v := .bool true) rfl)) ?_
            rfl
          · refine LJ.gT rfl ?_
            refine LJ.yd rfl (Yd.mvB rfl) ?_
            refine LJ.gT rfl ?_
            refine LJ.yd rfl (Yd.mvS rfl) ?_
            refine LJ.gT rfl ?_
            refine LJ.yd rfl (Yd.mvS rfl) ?_
            refine LJ.gT rfl ?_
            refine LJ.yd rfl (Yd.mvI rfl) ?_
            refine LJ.gT rfl ?_
            refine LJ.yd rfl (Yd.add rfl rfl (by unfold I64; omega)) ?_
            refine LJ.gT rfl ?_
            refine LJ.call0 rfl (fun k hk dk => GroupPanesI_ok (Sts.lrm hk dk 0 (by first | rfl | omega | (simp; done) | (simp; omega) | (simp [upN_len]; omega) | (simp [idxBy_len]; omega) | (simp [marks_len]; omega) | (simp [upN_len]; done) | (simp [idxBy_len]; done) | (simp [marks_len]; done) | (simp at *; omega)) (by first | rfl | omega | (simp; done) | (simp; omega) | (simp [upN_len]; omega) | (simp [idxBy_len]; omega) | (simp [marks_len]; omega) | (simp [upN_len]; done) | (simp [idxBy_len]; done) | (simp [marks_len]; done) | (simp at *; omega)) rfl)) ?_
            rintro _ _ ⟨ra59, rc59, rfl, rfl⟩
            refine LJ.norm [_, _, _, _, _] rfl ?_
            refine LJ.gT rfl ?_
            refine LJ.yd rfl (Yd.mvI rfl) ?_
            refine LJ.gT rfl ?_
            refine LJ.yd rfl (Yd.add rfl rfl (by unfold I64; omega)) ?_
            refine LJ.gT rfl ?_
            refine LJ.callV rfl (fun k hk dk => FireTime_v (Sts.lrm hk dk 0 (by first | rfl | omega | (simp; done) | (simp; omega) | (simp [upN_len]; omega) | (simp [idxBy_len]; omega) | (simp [marks_len]; omega) | (simp [upN_len]; done) | (simp [idxBy_len]; done) | (simp [marks_len]; done) | (simp at *; omega)) (by first | rfl | omega | (simp; done) | (simp; omega) | (simp [upN_len]; omega) | (simp [idxBy_len]; omega) | (simp [marks_len]; omega) | (simp [upN_len]; done) | (simp [idxBy_len]; done) | (simp [marks_len]; done) | (simp at *; omega)) rfl) (Sts.lrm hk dk 4 (by first | rfl | omega | (simp; done) | (simp; omega) | (simp [upN_len]; omega) | (simp [idxBy_len]; omega) | (simp [marks_len]; omega) | (simp [upN_len]; done) | (simp [idxBy_len]; done) | (simp [marks_len]; done) | (simp at *; omega)) (by first | rfl | omega | (simp; done) | (simp; omega) | (simp [upN_len]; omega) | (simp [idxBy_len]; omega) | (simp [marks_len]; omega) | (simp [upN_len]; done) | (simp [idxBy_len]; done) | (simp [marks_len]; done) | (simp at *; omega)) rfl) (ft_gp h.1 (by omega) (by omega))) ?_
            refine LJ.gT rfl ?_
            refine LJ.yd rfl (Yd.mvI rfl) ?_
            refine LJ.gT rfl ?_
            refine LJ.splitD rfl (Yd.leq rfl rfl) (fun h64 => ?_) (fun h64 => ?_)
            · refine LJ.gT rfl ?_
              refine LJ.yd rfl (Yd.pickFB rfl rfl) ?_
              refine LJ.yd rfl (Yd.pickTB rfl rfl) ?_
              refine LJ.yd rfl (Yd.asB rfl) ?_
              refine LJ.nil ?_
              refine CJ.ret ?_
              refine Fin.V (Res.one (ResV.tmp (v := .bool true) rfl)) ?_
              rfl
            · exfalso; first | omega | (have := q2 (by omega); omega)
        · exfalso; first | omega | (have := q2 (by omega); omega)
      · exfalso; first | omega | (have := q2 (by omega); omega)
end Go.Proofs.Ytlknglhldfpbdaa
