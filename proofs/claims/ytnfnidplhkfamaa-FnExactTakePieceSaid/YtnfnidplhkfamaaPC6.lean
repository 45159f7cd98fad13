/-
  Boxes, panes, pieces and stocks, drawn: contracts.
-/
import Derived.Test.YtnfnidplhkfamaaPC5
import Derived.Test.YtnfnidplhkfamaaRD
import Derived.Test.YtnfnidplhkfamaaPD
namespace Go.Proofs.Ytnfnidplhkfamaa
open Go
set_option maxRecDepth 20000
set_option maxHeartbeats 1000000

def BoxR (rb : Nat) (a : Option Addr) (n c : Nat) (p : Int) (v : Value) (gs : List HProp) : Prop :=
  ∃ (X Y W H q : Int), v = .agg #[vI X, vI Y, vI W, vI H] ∧ gs = [Rd rb a n c q] ∧ p ≤ q ∧ q ≤ p + 10 ∧ (0 ≤ X ∧ X ≤ 1000 ∧ 0 ≤ Y ∧ Y ≤ 1000 ∧ 1 ≤ W ∧ W ≤ 1000 ∧ 1 ≤ H ∧ H ≤ 1000)
theorem someBox_ok {A : Amb} {rb n c : Nat} {a : Option Addr} {p w h : Int} (hcode : RdCode A.h a n) (hp0 : 0 ≤ p) (hp1 : p ≤ 10000) (hw : 0 ≤ w ∧ w ≤ 999) (hh : 0 ≤ h ∧ h ≤ 999) :
    Ctr Try.prog 91 #[.pointer (some ⟨rb, 0, none⟩), vI w, vI h] A [Rd rb a n c p] (BoxR rb a n c p) := by
  refine Ctr.body (args := [_, _, _]) Try.func91 rfl Try.ntmps91 Try.results91 (by simp) ?_
  refine CJ.seq ?_
  refine CJ.region ?_
  refine LJ.alloc ([_, _, _, _] : List Value) rfl rfl (fun b1 => ?_)
  refine LJ.nil ?_
  refine CJ.seq ?_
  refine CJ.region ?_
  refine LJ.yd rfl (Yd.mvP rfl) ?_
  refine LJ.yd rfl (Yd.mvI rfl) ?_
  refine LJ.call (pickF _ [1]) (pickF _ [0]) rfl (perm_pickF _ [1] [0] rfl) (fun k hk dk => pick_ok (hcode.up) (by omega) (by omega)) ?_
  rintro _ _ ⟨x10, rfl, hx10, hy10, rfl⟩
  refine LJ.norm [_, _] rfl ?_
  refine LJ.yd rfl (Yd.add rfl rfl (by unfold I64; omega)) ?_
  refine LJ.yd rfl (Yd.mvP rfl) ?_
  refine LJ.yd rfl (Yd.mvI rfl) ?_
  refine LJ.call (pickF _ [0]) (pickF _ [1]) rfl (perm_pickF _ [0] [1] rfl) (fun k hk dk => pick_ok (hcode.up) (by omega) (by omega)) ?_
  rintro _ _ ⟨x14, rfl, hx14, hy14, rfl⟩
  refine LJ.norm [_, _] rfl ?_
  refine LJ.yd rfl (Yd.add rfl rfl (by unfold I64; omega)) ?_
  refine LJ.yd rfl (Yd.build (cs := [_, _, _, _]) rfl) ?_
  refine LJ.alloc ([_, _, _, _] : List Value) rfl rfl (fun b2 => ?_)
  refine LJ.store (v := .agg #[_, _, _, _]) (us := [_, _, _, _]) 2 rfl rfl rfl rfl rfl rfl rfl rfl ?_
  refine LJ.nil ?_
  refine CJ.seq ?_
  refine CJ.region ?_
  refine LJ.yd rfl (Yd.mvP rfl) ?_
  refine LJ.yd rfl (Yd.mvI rfl) ?_
  refine LJ.yd rfl (Yd.fieldAddr rfl) ?_
  refine LJ.yd rfl (Yd.loadC 2 rfl rfl rfl) ?_
  refine LJ.yd rfl (Yd.sub rfl rfl (by unfold I64; omega)) ?_
  refine LJ.yd rfl (Yd.add rfl rfl (by unfold I64; omega)) ?_
  refine LJ.call (pickF _ [0, 2]) (pickF _ [1]) rfl (perm_pickF _ [0, 2] [1] rfl) (fun k hk dk => pick_ok (hcode.up) (by omega) (by omega)) ?_
  rintro _ _ ⟨x23, rfl, hx23, hy23, rfl⟩
  refine LJ.norm [_, _, _] rfl ?_
  refine LJ.yd rfl (Yd.fieldAddr rfl) ?_
  refine LJ.store (v := .int _ _) (us := [_, _, _, _]) 1 rfl rfl rfl rfl rfl rfl rfl rfl ?_
  refine LJ.nil ?_
  refine CJ.seq ?_
  refine CJ.region ?_
  refine LJ.yd rfl (Yd.mvP rfl) ?_
  refine LJ.yd rfl (Yd.mvI rfl) ?_
  refine LJ.yd rfl (Yd.fieldAddr rfl) ?_
  refine LJ.yd rfl (Yd.loadC 1 rfl rfl rfl) ?_
  refine LJ.yd rfl (Yd.sub rfl rfl (by unfold I64; omega)) ?_
  refine LJ.yd rfl (Yd.add rfl rfl (by unfold I64; omega)) ?_
  refine LJ.call (pickF _ [0, 1]) (pickF _ [2]) rfl (perm_pickF _ [0, 1] [2] rfl) (fun k hk dk => pick_ok (hcode.up) (by omega) (by omega)) ?_
  rintro _ _ ⟨x31, rfl, hx31, hy31, rfl⟩
  refine LJ.norm [_, _, _] rfl ?_
  refine LJ.yd rfl (Yd.fieldAddr rfl) ?_
  refine LJ.store (v := .int _ _) (us := [_, _, _, _]) 1 rfl rfl rfl rfl rfl rfl rfl rfl ?_
  refine LJ.nil ?_
  refine CJ.seq ?_
  refine CJ.region ?_
  refine LJ.yd rfl (Yd.loadG (us := [_, _, _, _]) 1 rfl rfl rfl rfl) ?_
  refine LJ.store (v := .agg #[_, _, _, _]) (us := [_, _, _, _]) 0 rfl rfl rfl rfl rfl rfl rfl rfl ?_
  refine LJ.nil ?_
  refine CJ.ret ?_
  exact Fin.R [_] (Res.one (ResV.cell (us := [_, _, _, _]) 0 rfl rfl rfl rfl)) ⟨_, _, _, _, _, rfl, rfl, by omega, by omega, by omega⟩ (Ent.pick [2] [0, 1] rfl)
/-- a piece that is drawn -/
def PcR (rb : Nat) (a : Option Addr) (n c : Nat) (p k : Int) (m : Nat) (v : Value) (gs : List HProp) : Prop :=
  ∃ (u : Pc) (q : Int), v = .agg (encQ u).toArray ∧ gs = [Rd rb a n c q, rowQ u] ∧ p ≤ q ∧ q ≤ p + k ∧ (0 ≤ u.p.w ∧ u.p.w ≤ 201) ∧ (0 ≤ u.p.h ∧ u.p.h ≤ 201) ∧ u.p.fl.length ≤ m
theorem somePiece_ok {A : Amb} {rb n c : Nat} {a : Option Addr} {p l : Int} (hcode : RdCode A.h a n) (hp0 : 0 ≤ p) (hp1 : p ≤ 5000) :
    Ctr Try.prog 81 #[.pointer (some ⟨rb, 0, none⟩), vI l] A [Rd rb a n c p] (PcR rb a n c p 100 6) := by
  refine Ctr.body (args := [_, _]) Try.func81 rfl Try.ntmps81 Try.results81 (by simp) ?_
  refine CJ.seq ?_
  refine CJ.region ?_
  refine LJ.alloc ([_, _, _, _] : List Value) rfl rfl (fun b1 => ?_)
  refine LJ.nil ?_
  refine CJ.seq ?_
  refine CJ.region ?_
  refine LJ.yd rfl (Yd.mvI rfl) ?_
  refine LJ.yd rfl (Yd.mvP rfl) ?_
  refine LJ.op rfl (OpR.buildSlice (cs := [_, _, _, _, _]) rfl rfl) ?_
  rintro _ _ ⟨b2, rfl, rfl⟩
  refine LJ.call (pickF _ [1, 2]) (pickF _ [0]) rfl (perm_pickF _ [1, 2] [0] rfl) (fun k hk dk => one_ok (l := [12, 20, 8, 6, 30]) (hcode.up) (LitAt.of (l := [12, 20, 8, 6, 30]) hk dk 1 rfl) (by simp) (by omega) (by omega)) ?_
  rintro _ _ ⟨x11, rfl, hx11, rfl⟩
  simp only [List.mem_cons, List.not_mem_nil, or_false] at hx11
  refine LJ.norm [_, _, _] rfl ?_
  refine LJ.yd rfl (Yd.mvP rfl) ?_
  refine LJ.op rfl (OpR.buildSlice (cs := [_, _, _, _, _]) rfl rfl) ?_
  rintro _ _ ⟨b3, rfl, rfl⟩
  refine LJ.call (pickF _ [0, 1, 3]) (pickF _ [2]) rfl (perm_pickF _ [0, 1, 3] [2] rfl) (fun k hk dk => one_ok (l := [10, 16, 8, 6, 24]) (hcode.up) (LitAt.of (l := [10, 16, 8, 6, 24]) hk dk 2 rfl) (by simp) (by omega) (by omega)) ?_
  rintro _ _ ⟨x14, rfl, hx14, rfl⟩
  simp only [List.mem_cons, List.not_mem_nil, or_false] at hx14
  refine LJ.norm [_, _, _, _] rfl ?_
  refine LJ.yd rfl (Yd.build (cs := [_, _, _, _]) rfl) ?_
  refine LJ.alloc ([_, _, _, _] : List Value) rfl rfl (fun b4 => ?_)
  refine LJ.store (v := .agg #[_, _, _, _]) (us := [_, _, _, _]) 4 rfl rfl rfl rfl rfl rfl rfl rfl ?_
  refine LJ.nil ?_
  refine CJ.seq ?_
  refine CJ.seq ?_
  refine CJ.ent (Ent.addLR Box.enc 33 4) ?_
  refine CJ.norm [_, _, _, _, _, _] rfl ?_
  refine CJ.region ?_
  refine LJ.yd rfl (Yd.mvP rfl) ?_
  refine LJ.op rfl (OpR.buildSlice (cs := [_, _, _, _, _]) rfl rfl) ?_
  rintro _ _ ⟨b5, rfl, rfl⟩
  refine LJ.call (pickF _ [0, 1, 2, 4, 5, 6]) (pickF _ [3]) rfl (perm_pickF _ [0, 1, 2, 4, 5, 6] [3] rfl) (fun k hk dk => one_ok (l := [0, 1, 2, 3, 0]) (hcode.up) (LitAt.of (l := [0, 1, 2, 3, 0]) hk dk 5 rfl) (by simp) (by omega) (by omega)) ?_
  rintro _ _ ⟨x18, rfl, hx18, rfl⟩
  simp only [List.mem_cons, List.not_mem_nil, or_false] at hx18
  refine LJ.norm [_, _, _, _, _, _, _] rfl ?_
  refine LJ.yd rfl (Yd.asI rfl) ?_
  refine LJ.nil ?_
  refine CJ.block ?_
  refine CJ.loopF [0, 4, 5] (Int × Int × List Box × Option Addr × Nat × Nat) (fun ⟨m, q, F, fa, fn, fc⟩ => 0 ≤ m ∧ p ≤ q ∧ q + 20 * m ≤ p + 80 ∧ F.length + m ≤ 3 ∧ fn = F.length) (fun ⟨m, q, F, fa, fn, fc⟩ => [(6, vI m)]) (fun ⟨m, q, F, fa, fn, fc⟩ => [Rd rb a n c q, Cel b4 31 [vI l, vI x11, vI x14, .slice fa fn fc], LR Box.enc 33 4 fa fc F]) (fun ⟨m, q, F, fa, fn, fc⟩ => m.toNat) (x18, p + 1 + 1 + 1, [], _, _, _) [_, _, _, _] [0, 1, 2, 5] [6, 3, 4] rfl rfl rfl ?_ ⟨rfl, trivial⟩ ?_
  · exact ⟨by omega, by omega, by omega, by simp; omega, rfl⟩
  · rintro ⟨m, q, F, fa, fn, fc⟩ σ ⟨hm0, hq3, hq4, hFl, hfn⟩
    refine CJ.norm [_, _, _, _, _, _, _] rfl ?_
    subst hfn
    refine CJ.seq ?_
    refine CJ.seq ?_
    refine CJ.region ?_
    refine LJ.yd rfl (Yd.mvI rfl) ?_
    refine LJ.splitD rfl (Yd.gtr rfl rfl) (fun h20 => ?_) (fun h20 => ?_)
    · refine LJ.nil ?_
      refine CJ.condT rfl ?_
      refine CJ.skip ?_
      refine CJ.seq ?_
      refine CJ.block ?_
      refine CJ.seq ?_
      refine CJ.region ?_
      refine LJ.yd rfl (Yd.mvP rfl) ?_
      refine LJ.yd rfl (Yd.fieldAddr rfl) ?_
      refine LJ.yd rfl (Yd.loadC 5 rfl rfl rfl) ?_
      refine LJ.yd rfl (Yd.fieldAddr rfl) ?_
      refine LJ.yd rfl (Yd.loadC 5 rfl rfl rfl) ?_
      refine LJ.call (pickF _ [0, 1, 2, 3, 5, 6]) (pickF _ [4]) rfl (perm_pickF _ [0, 1, 2, 3, 5, 6] [4] rfl) (fun k hk dk => someBox_ok hcode.up (by omega) (by omega) (by omega) (by omega)) ?_
      rintro _ _ ⟨bX, bY, bW, bH, q1, rfl, rfl, hq1, hq2, hb1, hb2, hb3, hb4, hb5, hb6, hb7, hb8⟩
      refine LJ.norm [_, _, _, _, _, _, _] rfl ?_
      refine LJ.alloc ([_, _, _, _] : List Value) rfl rfl (fun b6 => ?_)
      refine LJ.store (v := .agg #[_, _, _, _]) (us := [_, _, _, _]) 7 rfl rfl rfl rfl rfl rfl rfl rfl ?_
      refine LJ.nil ?_
      refine CJ.seq ?_
      refine CJ.region ?_
      refine LJ.yd rfl (Yd.fieldAddr rfl) ?_
      refine LJ.yd rfl (Yd.loadC 7 rfl rfl rfl) ?_
      refine LJ.yd rfl (Yd.min' rfl rfl) ?_
      refine LJ.yd rfl (Yd.fieldAddr rfl) ?_
      refine LJ.store (v := .int _ _) (us := [_, _, _, _]) 7 rfl rfl rfl rfl rfl rfl rfl rfl ?_
      refine LJ.nil ?_
      refine CJ.seq ?_
      refine CJ.region ?_
      refine LJ.yd rfl (Yd.fieldAddr rfl) ?_
      refine LJ.yd rfl (Yd.loadC 7 rfl rfl rfl) ?_
      refine LJ.yd rfl (Yd.min' rfl rfl) ?_
      refine LJ.yd rfl (Yd.fieldAddr rfl) ?_
      refine LJ.store (v := .int _ _) (us := [_, _, _, _]) 7 rfl rfl rfl rfl rfl rfl rfl rfl ?_
      refine LJ.nil ?_
      refine CJ.region ?_
      refine LJ.yd rfl (Yd.fieldAddr rfl) ?_
      refine LJ.yd rfl (Yd.loadC 4 rfl rfl rfl) ?_
      refine LJ.yd rfl (Yd.loadG (us := [_, _, _, _]) 7 rfl rfl rfl rfl) ?_
      refine LJ.op rfl (OpR.buildSlice (cs := [_, _, _, _]) rfl rfl) ?_
      rintro _ _ ⟨b7, rfl, rfl⟩
      refine LJ.op rfl (OpR.apT (enc := Box.enc) [⟨_, _, _, _⟩] 5 8 rfl rfl rfl (by first | rfl | omega | (simp; done) | (simp; omega) | (simp [upN_len]; omega) | (simp [idxBy_len]; omega) | (simp [marks_len]; omega) | (simp [upN_len]; done) | (simp [idxBy_len]; done) | (simp [marks_len]; done) | (simp at *; omega)) rfl rfl rfl rfl rfl (by first | rfl | omega | (simp; done) | (simp; omega) | (simp [upN_len]; omega) | (simp [idxBy_len]; omega) | (simp [marks_len]; omega) | (simp [upN_len]; done) | (simp [idxBy_len]; done) | (simp [marks_len]; done) | (simp at *; omega))) ?_
      rintro _ _ ⟨ra41, rc41, rfl, rfl⟩
      refine LJ.norm [_, _, _, _, _, _, _, _, _] rfl ?_
      refine LJ.yd rfl (Yd.fieldAddr rfl) ?_
      refine LJ.store (v := .slice _ _ _) (us := [_, _, _, _]) 4 rfl rfl rfl rfl rfl rfl rfl rfl ?_
      refine LJ.nil ?_
      refine CJ.region ?_
      refine LJ.yd rfl (Yd.mvI rfl) ?_
      refine LJ.yd rfl (Yd.sub rfl rfl (by unfold I64; omega)) ?_
      refine LJ.yd rfl (Yd.asI rfl) ?_
      refine LJ.nil ?_
      refine ⟨(_, _, _, _, _, _), ?_, ⟨rfl, rfl, rfl, trivial⟩, ⟨rfl, trivial⟩, Ent.pick [0, 1, 2, 3, 6, 4, 5] [7, 8] rfl, ?_⟩
      · exact ⟨by omega, by omega, by omega, by simp; omega, by simp⟩
      · dsimp only; omega
    · refine LJ.nil ?_
      refine CJ.condF rfl ?_
      refine CJ.exit ?_
      refine CJ.seq ?_
      refine CJ.region ?_
      refine LJ.yd rfl (Yd.loadG (us := [_, _, _, _]) 5 rfl rfl rfl rfl) ?_
      refine LJ.store (v := .agg #[_, _, _, _]) (us := [_, _, _, _]) 0 rfl rfl rfl rfl rfl rfl rfl rfl ?_
      refine LJ.nil ?_
      refine CJ.ret ?_
      exact Fin.R [_, _] (Res.one (ResV.cell (us := [_, _, _, _]) 0 rfl rfl rfl rfl)) ⟨⟨⟨_, _, _, _⟩, _, _⟩, _, rfl, rfl, by omega, by omega, by simp only; omega, by simp only; omega, by simp only; omega⟩ (Ent.pick [4, 6] [0, 1, 2, 3, 5] rfl)
/-- facts of the pieces that are drawn -/
def PcB (X : List Pc) : Prop := ∀ u ∈ X, (-1000 ≤ u.p.w ∧ u.p.w ≤ 1000) ∧ (-1000 ≤ u.p.h ∧ u.p.h ≤ 1000) ∧ u.p.fl.length ≤ 20
theorem PcB.nil : PcB [] := fun u hu => by cases hu
theorem PcB.snoc {X : List Pc} {u : Pc} (h : PcB X) (h2 : (-1000 ≤ u.p.w ∧ u.p.w ≤ 1000) ∧ (-1000 ≤ u.p.h ∧ u.p.h ≤ 1000) ∧ u.p.fl.length ≤ 20) : PcB (X ++ [u]) := fun z hz => by
  rcases List.mem_append.1 hz with hz | hz
  · exact h z hz
  · rw [List.mem_singleton.1 hz]; exact h2
def StkR (rb : Nat) (a : Option Addr) (n c : Nat) (p k : Int) (v : Value) (gs : List HProp) : Prop :=
  ∃ (X : List Pc) (aa : Option Addr) (cc : Nat) (q : Int), v = .slice aa X.length cc ∧ gs = [Rd rb a n c q, LR encQ 31 4 aa cc X, INN rowQ X] ∧ p ≤ q ∧ q ≤ p + k ∧ X.length ≤ 10 ∧ PcB X
theorem someStock_ok {A : Amb} {rb n c : Nat} {a : Option Addr} {p : Int} (hcode : RdCode A.h a n) (hp0 : 0 ≤ p) (hp1 : p ≤ 1000) :
    Ctr Try.prog 77 #[.pointer (some ⟨rb, 0, none⟩)] A [Rd rb a n c p] (StkR rb a n c p 1000) := by
  refine Ctr.body (args := [_]) Try.func77 rfl Try.ntmps77 Try.results77 (by simp) ?_
  refine CJ.seq ?_
  refine CJ.region ?_
  refine LJ.yd rfl (Yd.asS rfl) ?_
  refine LJ.nil ?_
  refine CJ.seq ?_
  refine CJ.region ?_
  refine LJ.op rfl (OpR.buildSlice (cs := []) rfl rfl) ?_
  rintro _ _ ⟨b1, rfl, rfl⟩
  refine LJ.yd rfl (Yd.asS rfl) ?_
  refine LJ.nil ?_
  refine CJ.seq ?_
  refine CJ.region ?_
  refine LJ.yd rfl (Yd.asI rfl) ?_
  refine LJ.nil ?_
  refine CJ.seq ?_
  refine CJ.seq ?_
  refine CJ.region ?_
  refine LJ.yd rfl (Yd.mvP rfl) ?_
  refine LJ.op rfl (OpR.buildSlice (cs := [_, _, _, _, _, _]) rfl rfl) ?_
  rintro _ _ ⟨b2, rfl, rfl⟩
  refine LJ.call (pickF _ [1, 2]) (pickF _ [0]) rfl (perm_pickF _ [1, 2] [0] rfl) (fun k hk dk => one_ok (l := [2, 3, 1, 4, 0, 6]) (hcode.up) (LitAt.of (l := [2, 3, 1, 4, 0, 6]) hk dk 1 rfl) (by simp) (by omega) (by omega)) ?_
  rintro _ _ ⟨x9, rfl, hx9, rfl⟩
  simp only [List.mem_cons, List.not_mem_nil, or_false] at hx9
  refine LJ.norm [_, _, _] rfl ?_
  refine LJ.yd rfl (Yd.asI rfl) ?_
  refine LJ.nil ?_
  refine CJ.block ?_
  refine CJ.imp1 0 rfl (fun _ h => Cel.lr (enc := encQ) (k := 4) (m := 0) [] rfl rfl rfl rfl h) ?_
  refine CJ.norm [_, _, _] rfl ?_
  refine CJ.ent (INN.ent rowQ) ?_
  refine CJ.norm [_, _, _, _] rfl ?_
  refine CJ.loopF [0, 2] (Int × Int × Int × List (Pc) × Option Addr × Nat × Nat) (fun ⟨m, lb, q, X, XA, XN, XC⟩ => (XN = X.length) ∧ 0 ≤ m ∧ p ≤ q ∧ q + 110 * m ≤ p + 700 ∧ X.length + m ≤ 6 ∧ PcB X ∧ 0 ≤ lb ∧ lb + 4 * m ≤ 100) (fun ⟨m, lb, q, X, XA, XN, XC⟩ => [(5, vI m), (4, vI lb), (3, .slice XA XN XC)]) (fun ⟨m, lb, q, X, XA, XN, XC⟩ => [LR encQ 31 4 XA XC X, INN rowQ X, Rd rb a n c q]) (fun ⟨m, lb, q, X, XA, XN, XC⟩ => m.toNat) (x9, 0, p + 1, [], _, _, _) [_] [1] [0, 3, 2] rfl rfl rfl ?_ ⟨rfl, rfl, rfl, trivial⟩ ?_
  · exact ⟨(by first | rfl | omega | (simp; done) | (simp; omega) | (simp [upN_len]; omega) | (simp [idxBy_len]; omega) | (simp [marks_len]; omega) | (simp [upN_len]; done) | (simp [idxBy_len]; done) | (simp [marks_len]; done) | (simp at *; omega)), ⟨by omega, by omega, by omega, by simp; omega, PcB.nil, by omega, by omega⟩⟩
  · rintro ⟨m, lb, q, X, XA, XN, XC⟩ σ ⟨hlNX, ⟨hm0, hq3, hq4, hXl, hXb, hlb0, hlb1⟩⟩
    subst hlNX
    refine CJ.norm [_, _, _, _] rfl ?_
    refine CJ.seq ?_
    refine CJ.seq ?_
    refine CJ.region ?_
    refine LJ.yd rfl (Yd.mvI rfl) ?_
    refine LJ.splitD rfl (Yd.gtr rfl rfl) (fun h11 => ?_) (fun h11 => ?_)
    · refine LJ.nil ?_
      refine CJ.condT rfl ?_
      refine CJ.skip ?_
      refine CJ.seq ?_
      refine CJ.block ?_
      refine CJ.seq ?_
      refine CJ.region ?_
      refine LJ.yd rfl (Yd.mvI rfl) ?_
      refine LJ.yd rfl (Yd.add rfl rfl (by unfold I64; omega)) ?_
      refine LJ.yd rfl (Yd.mvP rfl) ?_
      refine LJ.call (pickF _ [0, 1, 2]) (pickF _ [3]) rfl (perm_pickF _ [0, 1, 2] [3] rfl) (fun k hk dk => pick_ok (hcode.up) (by omega) (by omega)) ?_
      rintro _ _ ⟨x17, rfl, hx17, hy17, rfl⟩
      refine LJ.norm [_, _, _, _] rfl ?_
      refine LJ.yd rfl (Yd.add rfl rfl (by unfold I64; omega)) ?_
      refine LJ.yd rfl (Yd.asI rfl) ?_
      refine LJ.nil ?_
      refine CJ.region ?_
      refine LJ.yd rfl (Yd.mvS rfl) ?_
      refine LJ.yd rfl (Yd.mvP rfl) ?_
      refine LJ.yd rfl (Yd.mvI rfl) ?_
      refine LJ.call (pickF _ [0, 1, 2]) (pickF _ [3]) rfl (perm_pickF _ [0, 1, 2] [3] rfl) (fun k hk dk => somePiece_ok hcode.up (by omega) (by omega)) ?_
      rintro _ _ ⟨⟨⟨ul, uw, uh, uf⟩, ua, uc⟩, q1, rfl, rfl, hq1, hq2, hb1, hb2, hb3⟩
      dsimp only at hb1 hb2 hb3
      refine LJ.norm [_, _, _, _, _] rfl ?_
      refine LJ.op rfl (OpR.buildSlice (cs := [_, _, _, _]) rfl rfl) ?_
      rintro _ _ ⟨b4, rfl, rfl⟩
      refine LJ.op rfl (OpR.apT (enc := encQ) [⟨⟨_, _, _, _⟩, _, _⟩] 1 5 rfl rfl rfl (by first | rfl | omega | (simp; done) | (simp; omega) | (simp [upN_len]; omega) | (simp [idxBy_len]; omega) | (simp [marks_len]; omega) | (simp [upN_len]; done) | (simp [idxBy_len]; done) | (simp [marks_len]; done) | (simp at *; omega)) rfl rfl rfl rfl rfl (by first | rfl | omega | (simp; done) | (simp; omega) | (simp [upN_len]; omega) | (simp [idxBy_len]; omega) | (simp [marks_len]; omega) | (simp [upN_len]; done) | (simp [idxBy_len]; done) | (simp [marks_len]; done) | (simp at *; omega))) ?_
      rintro _ _ ⟨ra24, rc24, rfl, rfl⟩
      refine LJ.norm [_, _, _, _, _, _] rfl ?_
      refine LJ.ent (Ent.pickFold [0, 1, 3, 5] [2, 4] [] rfl (fun _ s => INN.snoc (f := rowQ) (u := ⟨⟨_, _, _, _⟩, _, _⟩) s)) ?_
      refine LJ.norm [_, _, _, _, _] rfl ?_
      refine LJ.yd rfl (Yd.asS rfl) ?_
      refine LJ.nil ?_
      refine CJ.region ?_
      refine LJ.yd rfl (Yd.mvI rfl) ?_
      refine LJ.yd rfl (Yd.sub rfl rfl (by unfold I64; omega)) ?_
      refine LJ.yd rfl (Yd.asI rfl) ?_
      refine LJ.nil ?_
      refine ⟨(_, _, _, _, _, _, _), ?_, ⟨rfl, rfl, trivial⟩, ⟨rfl, rfl, rfl, trivial⟩, Ent.pick [0, 1, 4, 2] [3] rfl, ?_⟩
      · refine ⟨(by first | rfl | omega | (simp; done) | (simp; omega) | (simp [upN_len]; omega) | (simp [idxBy_len]; omega) | (simp [marks_len]; omega) | (simp [upN_len]; done) | (simp [idxBy_len]; done) | (simp [marks_len]; done) | (simp at *; omega)), ?_⟩
        exact ⟨by omega, by omega, by omega, by simp; omega, hXb.snoc ⟨by simp only; omega, by simp only; omega, by simp only; omega⟩, by omega, by omega⟩
      · dsimp only; omega
    · refine LJ.nil ?_
      refine CJ.condF rfl ?_
      refine CJ.exit ?_
      refine CJ.seq ?_
      refine CJ.region ?_
      refine LJ.yd rfl (Yd.mvS rfl) ?_
      refine LJ.yd rfl (Yd.asS rfl) ?_
      refine LJ.nil ?_
      refine CJ.ret ?_
      exact Fin.R [_, _, _] (Res.one (ResV.tmp (v := .slice _ _ _) rfl)) ⟨_, _, _, _, rfl, rfl, by omega, by omega, by omega, hXb⟩ (Ent.pick [3, 1, 2] [0] rfl)
theorem inn_set {X : List Pc} {j : Nat} {u u' : Pc} {h : Hp} (hu : X[j]? = some u) (e : rowQ u' = rowQ u) (s : INN rowQ X h) : INN rowQ (X.set j u') h := by
  unfold INN at s ⊢
  rw [List.map_set, e]
  have : (X.map rowQ).set j (rowQ u) = X.map rowQ := set_same (by rw [List.getElem?_map, hu]; rfl)
  rwa [this]
theorem PcB.set {X : List Pc} {j : Nat} {u u' : Pc} (h : PcB X) (hu : X[j]? = some u) (e1 : u'.p.w = u.p.w) (e2 : u'.p.h = u.p.h) (e3 : u'.p.fl = u.p.fl) : PcB (X.set j u') := fun z hz => by
  rcases List.mem_or_eq_of_mem_set hz with hz | rfl
  · exact h z hz
  · rw [e1, e2, e3]; exact h u (List.mem_of_getElem? hu)
theorem anyStock_ok {A : Amb} {rb n c : Nat} {a : Option Addr} {p : Int} (hcode : RdCode A.h a n) (hp0 : 0 ≤ p) (hp1 : p ≤ 1000) :
    Ctr Try.prog 45 #[.pointer (some ⟨rb, 0, none⟩)] A [Rd rb a n c p] (StkR rb a n c p 1100) := by
  refine Ctr.body (args := [_]) Try.func45 rfl Try.ntmps45 Try.results45 (by simp) ?_
  refine CJ.seq ?_
  refine CJ.region ?_
  refine LJ.yd rfl (Yd.asS rfl) ?_
  refine LJ.nil ?_
  refine CJ.seq ?_
  refine CJ.region ?_
  refine LJ.yd rfl (Yd.mvP rfl) ?_
  refine LJ.call (pickF _ []) (pickF _ [0]) rfl (perm_pickF _ [] [0] rfl) (fun k hk dk => someStock_ok hcode.up (by omega) (by omega)) ?_
  rintro _ _ ⟨X, xa, xc, q1, rfl, rfl, hq1, hq2, hXl, hXb⟩
  refine LJ.norm [_, _, _] rfl ?_
  refine LJ.yd rfl (Yd.asS rfl) ?_
  refine LJ.nil ?_
  refine CJ.seq ?_
  refine CJ.seq ?_
  refine CJ.region ?_
  refine LJ.yd rfl (Yd.mvS rfl) ?_
  refine LJ.yd rfl (Yd.len rfl) ?_
  refine LJ.splitD rfl (Yd.gtr rfl rfl) (fun h8 => ?_) (fun h8 => ?_)
  · refine LJ.yd rfl (Yd.mvB rfl) ?_
    refine LJ.gT rfl ?_
    refine LJ.yd rfl (Yd.mvP rfl) ?_
    refine LJ.gT rfl ?_
    refine LJ.call (pickF _ [1, 2]) (pickF _ [0]) rfl (perm_pickF _ [1, 2] [0] rfl) (fun k hk dk => pick_ok (hcode.up) (by omega) (by omega)) ?_
    rintro _ _ ⟨x11, rfl, hx11, hy11, rfl⟩
    refine LJ.norm [_, _, _] rfl ?_
    refine LJ.gT rfl ?_
    refine LJ.splitD rfl (Yd.eql rfl rfl) (fun h12 => ?_) (fun h12 => ?_)
    · refine LJ.yd rfl (Yd.pickTB rfl rfl) ?_
      refine LJ.nil ?_
      refine CJ.condT rfl ?_
      refine CJ.region ?_
      refine LJ.yd rfl (Yd.mvS rfl) ?_
      refine LJ.yd rfl (Yd.mvP rfl) ?_
      refine LJ.yd rfl (Yd.mvS rfl) ?_
      refine LJ.yd rfl (Yd.len rfl) ?_
      refine LJ.call (pickF _ [0, 1]) (pickF _ [2]) rfl (perm_pickF _ [0, 1] [2] rfl) (fun k hk dk => pick_ok (hcode.up) (by omega) (by omega)) ?_
      rintro _ _ ⟨x18, rfl, hx18, hy18, rfl⟩
      refine LJ.norm [_, _, _] rfl ?_
      refine LJ.yd rfl (Yd.mvP rfl) ?_
      refine LJ.op rfl (OpR.buildSlice (cs := [_, _, _, _]) rfl rfl) ?_
      rintro _ _ ⟨b1, rfl, rfl⟩
      refine LJ.call (pickF _ [0, 1, 3]) (pickF _ [2]) rfl (perm_pickF _ [0, 1, 3] [2] rfl) (fun k hk dk => one_ok (l := [0, 1, 9999, 10000]) (hcode.up) (LitAt.of (l := [0, 1, 9999, 10000]) hk dk 2 rfl) (by simp) (by omega) (by omega)) ?_
      rintro _ _ ⟨x21, rfl, hx21, rfl⟩
      simp only [List.mem_cons, List.not_mem_nil, or_false] at hx21
      refine LJ.norm [_, _, _, _] rfl ?_
      refine LJ.idxR 0 rfl rfl rfl rfl (by omega) (by first | rfl | omega | (simp; done) | (simp; omega) | (simp [upN_len]; omega) | (simp [idxBy_len]; omega) | (simp [marks_len]; omega) | (simp [upN_len]; done) | (simp [idxBy_len]; done) | (simp [marks_len]; done) | (simp at *; omega)) (by first | rfl | omega | (simp; done) | (simp; omega) | (simp [upN_len]; omega) | (simp [idxBy_len]; omega) | (simp [marks_len]; omega) | (simp [upN_len]; done) | (simp [idxBy_len]; done) | (simp [marks_len]; done) | (simp at *; omega)) (fun ib22 ia22 => ?_)
      refine LJ.yd rfl (Yd.fieldAddr rfl) ?_
      refine LJ.op rfl (OpR.stR (enc := encQ) (u' := ⟨⟨x21, (X[x18.toNat]'(by omega)).p.w, (X[x18.toNat]'(by omega)).p.h, (X[x18.toNat]'(by omega)).p.fl⟩, (X[x18.toNat]'(by omega)).a, (X[x18.toNat]'(by omega)).c⟩) 0 0 rfl ia22 rfl rfl (List.getElem?_eq_getElem (show x18.toNat < X.length by omega)) rfl rfl rfl rfl rfl) ?_
      rintro _ _ ⟨rfl, rfl⟩
      refine LJ.norm [_, _, _, _] rfl ?_
      refine LJ.nil ?_
      refine CJ.seq ?_
      refine CJ.region ?_
      refine LJ.yd rfl (Yd.mvS rfl) ?_
      refine LJ.yd rfl (Yd.asS rfl) ?_
      refine LJ.nil ?_
      refine CJ.ret ?_
      exact Fin.R [_, _, _] (Res.one (ResV.tmp (v := .slice _ _ _) rfl)) ⟨X.set x18.toNat ⟨⟨x21, (X[x18.toNat]'(by omega)).p.w, (X[x18.toNat]'(by omega)).p.h, (X[x18.toNat]'(by omega)).p.fl⟩, (X[x18.toNat]'(by omega)).a, (X[x18.toNat]'(by omega)).c⟩, _, _, _, by rw [List.length_set], rfl, by omega, by omega, by simp; omega, hXb.set (List.getElem?_eq_getElem (show x18.toNat < X.length by omega)) rfl rfl rfl⟩ (Ent.thn (Ent.impAt 1 rfl (fun _ s => inn_set (u' := ⟨⟨x21, (X[x18.toNat]'(by omega)).p.w, (X[x18.toNat]'(by omega)).p.h, (X[x18.toNat]'(by omega)).p.fl⟩, (X[x18.toNat]'(by omega)).a, (X[x18.toNat]'(by omega)).c⟩) (List.getElem?_eq_getElem (show x18.toNat < X.length by omega)) rfl s)) (Ent.pick [3, 0, 1] [2] rfl))
    · refine LJ.yd rfl (Yd.pickTB rfl rfl) ?_
      refine LJ.nil ?_
      refine CJ.condF rfl ?_
      refine CJ.skip ?_
      refine CJ.seq ?_
      refine CJ.region ?_
      refine LJ.yd rfl (Yd.mvS rfl) ?_
      refine LJ.yd rfl (Yd.asS rfl) ?_
      refine LJ.nil ?_
      refine CJ.ret ?_
      exact Fin.R [_, _, _] (Res.one (ResV.tmp (v := .slice _ _ _) rfl)) ⟨X, _, _, _, rfl, rfl, by omega, by omega, by omega, hXb⟩ (Ent.pick [2, 0, 1] [] rfl)
  · refine LJ.yd rfl (Yd.mvB rfl) ?_
    refine LJ.gF rfl rfl ?_
    refine LJ.gF rfl rfl ?_
    refine LJ.gF rfl rfl ?_
    refine LJ.yd rfl (Yd.pickFB rfl rfl) ?_
    refine LJ.nil ?_
    refine CJ.condF rfl ?_
    refine CJ.skip ?_
    refine CJ.seq ?_
    refine CJ.region ?_
    refine LJ.yd rfl (Yd.mvS rfl) ?_
    refine LJ.yd rfl (Yd.asS rfl) ?_
    refine LJ.nil ?_
    refine CJ.ret ?_
    exact Fin.R [_, _, _] (Res.one (ResV.tmp (v := .slice _ _ _) rfl)) ⟨X, _, _, _, rfl, rfl, by omega, by omega, by omega, hXb⟩ (Ent.pick [0, 1, 2] [] rfl)
end Go.Proofs.Ytnfnidplhkfamaa
