/-
  Lengths for bars, drawn: contracts.
-/
import Derived.Test.YtkojheinklgdeaaRD
import Derived.Test.YtkojheinklgdeaaA1
namespace Go.Proofs.Ytkojheinklgdeaa
open Go
set_option maxRecDepth 20000
set_option maxHeartbeats 1000000

def BarsD (rb : Nat) (a : Option Addr) (n c : Nat) (p : Int) (v : Value) (gs : List HProp) : Prop :=
  ∃ (l : List Int) (bar : Int) (aa : Option Addr) (m cc : Nat) (q : Int), v = .tuple #[.slice aa m cc, vI bar] ∧ gs = [Rd rb a n c q, LR encI 3 1 aa cc l] ∧ m = l.length ∧ p ≤ q ∧ q ≤ p + 100 ∧ l.length ≤ 14 ∧ 7 ≤ bar ∧ bar ≤ 20 ∧ ∀ u ∈ l, 0 ≤ u ∧ u ≤ 21
theorem mem_set1 {P : Int → Prop} {l : List Int} {i : Nat} {x : Int} (h : ∀ u ∈ l, P u) (hx : P x) : ∀ u ∈ l.set i x, P u := fun u hu => (List.mem_or_eq_of_mem_set hu).elim (h u) (fun e => e ▸ hx)
theorem mem_snoc {P : Int → Prop} {l : List Int} {x : Int} (h : ∀ u ∈ l, P u) (hx : P x) : ∀ u ∈ l ++ [x], P u := fun u hu => (List.mem_append.1 hu).elim (h u) (fun e => by rw [List.mem_singleton.1 e]; exact hx)
theorem barLengthsS_ok {A : Amb} {rb n c : Nat} {a : Option Addr} {p : Int} (hcode : RdCode A.h a n) (hp0 : 0 ≤ p) (hp1 : p ≤ 10000) :
    Ctr Try.prog 56 #[.pointer (some ⟨rb, 0, none⟩)] A [Rd rb a n c p] (BarsD rb a n c p) := by
  refine Ctr.body (args := [_]) Try.func56 rfl Try.ntmps56 Try.results56 (by simp) ?_
  refine CJ.seq ?_
  refine CJ.region ?_
  refine LJ.yd rfl (Yd.asS rfl) ?_
  refine LJ.yd rfl (Yd.asI rfl) ?_
  refine LJ.nil ?_
  refine CJ.seq ?_
  refine CJ.region ?_
  refine LJ.yd rfl (Yd.mvP rfl) ?_
  refine LJ.op rfl (OpR.buildSlice (cs := [_, _, _, _]) rfl rfl) ?_
  rintro _ _ ⟨b1, rfl, rfl⟩
  refine LJ.call (pickF _ [1]) (pickF _ [0]) rfl (perm_pickF _ [1] [0] rfl) (fun k hk dk => one_ok (l := [10, 12, 20, 7]) (hcode.up) (LitAt.of (l := [10, 12, 20, 7]) hk dk 0 rfl) (by simp) (by omega) (by omega)) ?_
  rintro _ _ ⟨x9, rfl, hx9, rfl⟩
  simp only [List.mem_cons, List.not_mem_nil, or_false] at hx9
  refine LJ.norm [_, _] rfl ?_
  refine LJ.yd rfl (Yd.asI rfl) ?_
  refine LJ.nil ?_
  refine CJ.seq ?_
  refine CJ.region ?_
  refine LJ.op rfl (OpR.buildSlice (cs := []) rfl rfl) ?_
  rintro _ _ ⟨b2, rfl, rfl⟩
  refine LJ.yd rfl (Yd.asS rfl) ?_
  refine LJ.nil ?_
  refine CJ.seq ?_
  refine CJ.seq ?_
  refine CJ.region ?_
  refine LJ.yd rfl (Yd.mvP rfl) ?_
  refine LJ.op rfl (OpR.buildSlice (cs := [_, _, _, _, _, _, _]) rfl rfl) ?_
  rintro _ _ ⟨b3, rfl, rfl⟩
  refine LJ.call (pickF _ [0, 2, 3]) (pickF _ [1]) rfl (perm_pickF _ [0, 2, 3] [1] rfl) (fun k hk dk => one_ok (l := [5, 7, 4, 3, 9, 0, 14]) (hcode.up) (LitAt.of (l := [5, 7, 4, 3, 9, 0, 14]) hk dk 2 rfl) (by simp) (by omega) (by omega)) ?_
  rintro _ _ ⟨x13, rfl, hx13, rfl⟩
  simp only [List.mem_cons, List.not_mem_nil, or_false] at hx13
  refine LJ.norm [_, _, _, _] rfl ?_
  refine LJ.yd rfl (Yd.asI rfl) ?_
  refine LJ.nil ?_
  refine CJ.block ?_
  refine CJ.imp1 1 rfl (fun _ h => Cel.lr (enc := encI) (k := 1) (m := 0) [] rfl rfl rfl rfl h) ?_
  refine CJ.norm [_, _, _, _] rfl ?_
  refine CJ.loopF [0, 2, 3, 4] (Int × Int × List Int × Option Addr × Nat × Nat) (fun ⟨m, q, l, lA, lN, lC⟩ => (lN = l.length) ∧ 0 ≤ m ∧ m + l.length ≤ 14 ∧ p ≤ q ∧ q + m ≤ p + 20 ∧ ∀ u ∈ l, 1 ≤ u ∧ u ≤ 20) (fun ⟨m, q, l, lA, lN, lC⟩ => [(6, vI m), (5, .slice lA lN lC)]) (fun ⟨m, q, l, lA, lN, lC⟩ => [LR encI 3 1 lA lC l, Rd rb a n c q]) (fun ⟨m, q, l, lA, lN, lC⟩ => m.toNat) (x13, p + 1 + 1, [], _, _, _) [_, _] [0, 2] [1, 3] rfl rfl rfl ?_ ⟨rfl, rfl, trivial⟩ ?_
  · exact ⟨(by first | rfl | omega | (simp; done) | (simp; omega) | (simp [upN_len]; omega) | (simp [idxBy_len]; omega) | (simp [marks_len]; omega) | (simp [upN_len]; done) | (simp [idxBy_len]; done) | (simp [marks_len]; done) | (simp at *; omega)), ⟨by omega, by simp; omega, by omega, by omega, by simp⟩⟩
  · rintro ⟨m, q, l, lA, lN, lC⟩ σ ⟨hlNl, ⟨hm0, hml, hq0, hq1, hlm⟩⟩
    subst hlNl
    refine CJ.norm [_, _, _, _] rfl ?_
    refine CJ.seq ?_
    refine CJ.seq ?_
    refine CJ.region ?_
    refine LJ.yd rfl (Yd.mvI rfl) ?_
    refine LJ.splitD rfl (Yd.gtr rfl rfl) (fun h15 => ?_) (fun h15 => ?_)
    · refine LJ.nil ?_
      refine CJ.condT rfl ?_
      refine CJ.skip ?_
      refine CJ.seq ?_
      refine CJ.block ?_
      refine CJ.region ?_
      refine LJ.yd rfl (Yd.mvS rfl) ?_
      refine LJ.yd rfl (Yd.mvP rfl) ?_
      refine LJ.yd rfl (Yd.mvI rfl) ?_
      refine LJ.call (pickF _ [0, 1, 2]) (pickF _ [3]) rfl (perm_pickF _ [0, 1, 2] [3] rfl) (fun k hk dk => pick_ok (hcode.up) (by omega) (by omega)) ?_
      rintro _ _ ⟨x21, rfl, hx21, hy21, rfl⟩
      refine LJ.norm [_, _, _, _] rfl ?_
      refine LJ.yd rfl (Yd.add rfl rfl (by unfold I64; omega)) ?_
      refine LJ.op rfl (OpR.buildSlice (cs := [_]) rfl rfl) ?_
      rintro _ _ ⟨b4, rfl, rfl⟩
      refine LJ.op rfl (OpR.apT (enc := encI) [_] 2 4 rfl rfl rfl (by first | rfl | omega | (simp; done) | (simp; omega) | (simp [upN_len]; omega) | (simp [idxBy_len]; omega) | (simp [marks_len]; omega) | (simp [upN_len]; done) | (simp [idxBy_len]; done) | (simp [marks_len]; done) | (simp at *; omega)) rfl rfl rfl rfl rfl (by first | rfl | omega | (simp; done) | (simp; omega) | (simp [upN_len]; omega) | (simp [idxBy_len]; omega) | (simp [marks_len]; omega) | (simp [upN_len]; done) | (simp [idxBy_len]; done) | (simp [marks_len]; done) | (simp at *; omega))) ?_
      rintro _ _ ⟨ra24, rc24, rfl, rfl⟩
      refine LJ.norm [_, _, _, _, _] rfl ?_
      refine LJ.yd rfl (Yd.asS rfl) ?_
      refine LJ.nil ?_
      refine CJ.region ?_
      refine LJ.yd rfl (Yd.mvI rfl) ?_
      refine LJ.yd rfl (Yd.sub rfl rfl (by unfold I64; omega)) ?_
      refine LJ.yd rfl (Yd.asI rfl) ?_
      refine LJ.nil ?_
      refine ⟨(_, _, _, _, _, _), ?_, ⟨rfl, rfl, rfl, rfl, trivial⟩, ⟨rfl, rfl, trivial⟩, Ent.pick [0, 1, 2, 3] [4] rfl, ?_⟩
      · refine ⟨(by first | rfl | omega | (simp; done) | (simp; omega) | (simp [upN_len]; omega) | (simp [idxBy_len]; omega) | (simp [marks_len]; omega) | (simp [upN_len]; done) | (simp [idxBy_len]; done) | (simp [marks_len]; done) | (simp at *; omega)), ?_⟩
        exact ⟨by omega, by simp; omega, by omega, by omega, mem_snoc hlm (by omega)⟩
      · first | omega | (dsimp only; omega) | (simp only []; omega)
    · refine LJ.nil ?_
      refine CJ.condF rfl ?_
      refine CJ.exit ?_
      refine CJ.seq ?_
      refine CJ.seq ?_
      refine CJ.region ?_
      refine LJ.yd rfl (Yd.mvS rfl) ?_
      refine LJ.yd rfl (Yd.len rfl) ?_
      refine LJ.splitD rfl (Yd.gtr rfl rfl) (fun h27 => ?_) (fun h27 => ?_)
      · refine LJ.yd rfl (Yd.mvB rfl) ?_
        refine LJ.gT rfl ?_
        refine LJ.yd rfl (Yd.mvP rfl) ?_
        refine LJ.gT rfl ?_
        refine LJ.call (pickF _ [0, 1, 2]) (pickF _ [3]) rfl (perm_pickF _ [0, 1, 2] [3] rfl) (fun k hk dk => pick_ok (hcode.up) (by omega) (by omega)) ?_
        rintro _ _ ⟨x30, rfl, hx30, hy30, rfl⟩
        refine LJ.norm [_, _, _, _] rfl ?_
        refine LJ.gT rfl ?_
        refine LJ.splitD rfl (Yd.eql rfl rfl) (fun h31 => ?_) (fun h31 => ?_)
        · refine LJ.yd rfl (Yd.pickTB rfl rfl) ?_
          refine LJ.nil ?_
          refine CJ.condT rfl ?_
          refine CJ.region ?_
          refine LJ.yd rfl (Yd.mvS rfl) ?_
          refine LJ.yd rfl (Yd.mvP rfl) ?_
          refine LJ.yd rfl (Yd.mvI rfl) ?_
          refine LJ.yd rfl (Yd.add rfl rfl (by unfold I64; omega)) ?_
          refine LJ.op rfl (OpR.buildSlice (cs := [_, _]) rfl rfl) ?_
          rintro _ _ ⟨b5, rfl, rfl⟩
          refine LJ.call (pickF _ [0, 1, 2, 4]) (pickF _ [3]) rfl (perm_pickF _ [0, 1, 2, 4] [3] rfl) (fun k hk dk => one_ok (l := [0, x9 + 1]) (hcode.up) (LitAt.of (l := [0, x9 + 1]) hk dk 3 rfl) (by simp) (by omega) (by omega)) ?_
          rintro _ _ ⟨x38, rfl, hx38, rfl⟩
          simp only [List.mem_cons, List.not_mem_nil, or_false] at hx38
          refine LJ.norm [_, _, _, _, _] rfl ?_
          refine LJ.idxR 2 rfl rfl rfl rfl (by omega) (by first | rfl | omega | (simp; done) | (simp; omega) | (simp [upN_len]; omega) | (simp [idxBy_len]; omega) | (simp [marks_len]; omega) | (simp [upN_len]; done) | (simp [idxBy_len]; done) | (simp [marks_len]; done) | (simp at *; omega)) (by first | rfl | omega | (simp; done) | (simp; omega) | (simp [upN_len]; omega) | (simp [idxBy_len]; omega) | (simp [marks_len]; omega) | (simp [upN_len]; done) | (simp [idxBy_len]; done) | (simp [marks_len]; done) | (simp at *; omega)) (fun ib39 ia39 => ?_)
          refine LJ.op rfl (OpR.st1 (enc := encI) (e1 := fun u => vI u) 2 (fun _ => rfl) (fun _ => rfl) (fun _ => rfl) rfl ia39 rfl rfl rfl (by first | rfl | omega | (simp; done) | (simp; omega) | (simp [upN_len]; omega) | (simp [idxBy_len]; omega) | (simp [marks_len]; omega) | (simp [upN_len]; done) | (simp [idxBy_len]; done) | (simp [marks_len]; done) | (simp at *; omega))) ?_
          rintro _ _ ⟨rfl, rfl⟩
          refine LJ.norm [_, _, _, _, _] rfl ?_
          refine LJ.nil ?_
          refine CJ.seq ?_
          refine CJ.region ?_
          refine LJ.yd rfl (Yd.mvS rfl) ?_
          refine LJ.yd rfl (Yd.mvI rfl) ?_
          refine LJ.yd rfl (Yd.asS rfl) ?_
          refine LJ.yd rfl (Yd.asI rfl) ?_
          refine LJ.nil ?_
          refine CJ.ret ?_
          exact Fin.R [_, _] (Res.two (ResV.tmp (v := .slice _ _ _) rfl) (ResV.tmp (v := .int _ _) rfl)) ⟨_, _, _, _, _, _, rfl, rfl, by first | rfl | simp, by omega, by omega, by first | omega | (simp; omega), by omega, by omega, by first | exact mem_set1 (fun u hu => by have := hlm u hu; omega) (by omega) | exact fun u hu => by have := hlm u hu; omega⟩ (Ent.pick [4, 2] [0, 1, 3] rfl)
        · refine LJ.yd rfl (Yd.pickTB rfl rfl) ?_
          refine LJ.nil ?_
          refine CJ.condF rfl ?_
          refine CJ.skip ?_
          refine CJ.seq ?_
          refine CJ.region ?_
          refine LJ.yd rfl (Yd.mvS rfl) ?_
          refine LJ.yd rfl (Yd.mvI rfl) ?_
          refine LJ.yd rfl (Yd.asS rfl) ?_
          refine LJ.yd rfl (Yd.asI rfl) ?_
          refine LJ.nil ?_
          refine CJ.ret ?_
          exact Fin.R [_, _] (Res.two (ResV.tmp (v := .slice _ _ _) rfl) (ResV.tmp (v := .int _ _) rfl)) ⟨_, _, _, _, _, _, rfl, rfl, by first | rfl | simp, by omega, by omega, by first | omega | (simp; omega), by omega, by omega, by first | exact mem_set1 (fun u hu => by have := hlm u hu; omega) (by omega) | exact fun u hu => by have := hlm u hu; omega⟩ (Ent.pick [3, 2] [0, 1] rfl)
      · refine LJ.yd rfl (Yd.mvB rfl) ?_
        refine LJ.gF rfl rfl ?_
        refine LJ.gF rfl rfl ?_
        refine LJ.gF rfl rfl ?_
        refine LJ.yd rfl (Yd.pickFB rfl rfl) ?_
        refine LJ.nil ?_
        refine CJ.condF rfl ?_
        refine CJ.skip ?_
        refine CJ.seq ?_
        refine CJ.region ?_
        refine LJ.yd rfl (Yd.mvS rfl) ?_
        refine LJ.yd rfl (Yd.mvI rfl) ?_
        refine LJ.yd rfl (Yd.asS rfl) ?_
        refine LJ.yd rfl (Yd.asI rfl) ?_
        refine LJ.nil ?_
        refine CJ.ret ?_
        exact Fin.R [_, _] (Res.two (ResV.tmp (v := .slice _ _ _) rfl) (ResV.tmp (v := .int _ _) rfl)) ⟨_, _, _, _, _, _, rfl, rfl, by first | rfl | simp, by omega, by omega, by first | omega | (simp; omega), by omega, by omega, by first | exact mem_set1 (fun u hu => by have := hlm u hu; omega) (by omega) | exact fun u hu => by have := hlm u hu; omega⟩ (Ent.pick [3, 2] [0, 1] rfl)
def BarsL (v : Value) (gs : List HProp) : Prop :=
  ∃ (l : List Int) (bar : Int) (aa : Option Addr) (m cc : Nat), v = .tuple #[.slice aa m cc, vI bar] ∧ gs = [LR encI 3 1 aa cc l] ∧ m = l.length ∧ l.length ≤ 14 ∧ 7 ≤ bar ∧ bar ≤ 20 ∧ ∀ u ∈ l, 0 ≤ u ∧ u ≤ 21
end Go.Proofs.Ytkojheinklgdeaa
