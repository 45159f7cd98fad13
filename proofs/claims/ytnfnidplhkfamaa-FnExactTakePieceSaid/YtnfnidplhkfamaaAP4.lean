/-
  Marks in pieces; the exact laws on pieces put in and taken out.
-/
import Derived.Test.YtnfnidplhkfamaaAP2
namespace Go.Proofs.Ytnfnidplhkfamaa
open Go
set_option maxRecDepth 20000
set_option maxHeartbeats 1000000

def mb (x : Int) : Box := ⟨x, x + 1, x + 1 + 1, x + 1 + 1 + 1⟩
def mbx (k : Int) (n : Nat) : List Box := (List.range n).map fun (i : Nat) => mb (k + 4 * (i : Int))
theorem mbx_len {k : Int} {n : Nat} : (mbx k n).length = n := by simp [mbx]
theorem mbx_get {k : Int} {n i : Nat} (h : i < n) : (mbx k n)[i]? = some (mb (k + 4 * i)) := by simp [mbx, h]
theorem mbx_at {k : Int} {n i : Nat} {u : Box} (h : (mbx k n)[i]? = some u) : u = mb (k + 4 * i) := by
  have hi : i < n := by have := (List.getElem?_eq_some_iff.1 h).1; rwa [mbx_len] at this
  rw [mbx_get hi] at h
  exact (Option.some.inj h).symm
theorem markBoxS_ok {A : Amb} {a : Option Addr} {m c : Nat} {l : List Box} {k0 : Int} (hm : m = l.length) (h0 : 0 ≤ k0) (h1 : k0 ≤ 1000000000000000) (hn : l.length ≤ 2000000) :
    Ctr Try.prog 71 #[.slice a m c, vI k0] A [LR Box.enc 33 4 a c l] (fun v gs => v = vI (k0 + 4 * l.length) ∧ gs = [LR Box.enc 33 4 a c (mbx k0 l.length)]) := by
  subst hm
  refine Ctr.body (args := [_, _]) Try.func71 rfl Try.ntmps71 Try.results71 (by simp) ?_
  refine CJ.seq ?_
  refine CJ.region ?_
  refine LJ.yd rfl (Yd.asI rfl) ?_
  refine LJ.nil ?_
  refine CJ.seq ?_
  refine CJ.seq ?_
  refine CJ.region ?_
  refine LJ.yd rfl (Yd.asI rfl) ?_
  refine LJ.nil ?_
  refine CJ.block ?_
  refine CJ.loopF [0, 4] (Nat × Int × List Box) (fun ⟨k, y, L⟩ => k ≤ l.length ∧ y = k0 + 4 * k ∧ L.length = l.length ∧ ∀ j, j < k → L[j]? = some (mb (k0 + 4 * j))) (fun ⟨k, y, L⟩ => [(5, vI k), (1, vI y)]) (fun ⟨k, y, L⟩ => [LR Box.enc 33 4 a c L]) (fun ⟨k, y, L⟩ => l.length - k) (0, k0, l) [] [] [0] rfl rfl rfl ?_ ⟨rfl, rfl, trivial⟩ ?_
  · exact ⟨by omega, by omega, rfl, fun j h => by omega⟩
  · rintro ⟨k, y, L⟩ σ ⟨hk1, hy, hL, hLj⟩
    refine CJ.norm [_] rfl ?_
    refine CJ.seq ?_
    refine CJ.seq ?_
    refine CJ.region ?_
    refine LJ.yd rfl (Yd.mvI rfl) ?_
    refine LJ.yd rfl (Yd.mvS rfl) ?_
    refine LJ.yd rfl (Yd.len rfl) ?_
    refine LJ.splitD rfl (Yd.lss rfl rfl) (fun h9 => ?_) (fun h9 => ?_)
    · refine LJ.nil ?_
      refine CJ.condT rfl ?_
      refine CJ.skip ?_
      refine CJ.seq ?_
      refine CJ.block ?_
      refine CJ.seq ?_
      obtain ⟨u, hu⟩ := someC (l := L) (j := k) (by omega)
      refine CJ.region ?_
      refine LJ.yd rfl (Yd.mvS rfl) ?_
      refine LJ.yd rfl (Yd.mvI rfl) ?_
      refine LJ.yd rfl (Yd.mvI rfl) ?_
      refine LJ.idxR 0 rfl rfl rfl rfl (by omega) (by first | rfl | omega | (simp; done) | (simp; omega) | (simp [upN_len]; omega) | (simp [idxBy_len]; omega) | (simp [marks_len]; omega) | (simp [upN_len]; done) | (simp [idxBy_len]; done) | (simp [marks_len]; done) | (simp at *; omega)) (by first | rfl | omega | (simp; done) | (simp; omega) | (simp [upN_len]; omega) | (simp [idxBy_len]; omega) | (simp [marks_len]; omega) | (simp [upN_len]; done) | (simp [idxBy_len]; done) | (simp [marks_len]; done) | (simp at *; omega)) (fun ib15 ia15 => ?_)
      refine LJ.yd rfl (Yd.fieldAddr rfl) ?_
      refine LJ.op rfl (OpR.stR (enc := Box.enc) (u' := ⟨y, u.Y, u.W, u.H⟩) 0 0 rfl ia15 rfl rfl hu rfl rfl rfl rfl rfl) ?_
      rintro _ _ ⟨rfl, rfl⟩
      refine LJ.norm [_] rfl ?_
      refine LJ.nil ?_
      refine CJ.seq ?_
      refine CJ.region ?_
      refine LJ.yd rfl (Yd.mvI rfl) ?_
      refine LJ.yd rfl (Yd.add rfl rfl (by unfold I64; omega)) ?_
      refine LJ.yd rfl (Yd.asI rfl) ?_
      refine LJ.nil ?_
      refine CJ.seq ?_
      refine CJ.region ?_
      refine LJ.yd rfl (Yd.mvS rfl) ?_
      refine LJ.yd rfl (Yd.mvI rfl) ?_
      refine LJ.yd rfl (Yd.mvI rfl) ?_
      refine LJ.idxR 0 rfl rfl rfl rfl (by omega) (by first | rfl | omega | (simp; done) | (simp; omega) | (simp [upN_len]; omega) | (simp [idxBy_len]; omega) | (simp [marks_len]; omega) | (simp [upN_len]; done) | (simp [idxBy_len]; done) | (simp [marks_len]; done) | (simp at *; omega)) (by first | rfl | omega | (simp; done) | (simp; omega) | (simp [upN_len]; omega) | (simp [idxBy_len]; omega) | (simp [marks_len]; omega) | (simp [upN_len]; done) | (simp [idxBy_len]; done) | (simp [marks_len]; done) | (simp at *; omega)) (fun ib22 ia22 => ?_)
      refine LJ.yd rfl (Yd.fieldAddr rfl) ?_
      refine LJ.op rfl (OpR.stR (enc := Box.enc) (u' := ⟨y, y + 1, u.W, u.H⟩) 0 1 rfl ia22 rfl rfl (List.getElem?_set_self (by first | omega | (simp; omega))) rfl rfl rfl rfl rfl) ?_
      rintro _ _ ⟨rfl, rfl⟩
      refine LJ.norm [_] rfl ?_
      refine LJ.nil ?_
      refine CJ.seq ?_
      refine CJ.region ?_
      refine LJ.yd rfl (Yd.mvI rfl) ?_
      refine LJ.yd rfl (Yd.add rfl rfl (by unfold I64; omega)) ?_
      refine LJ.yd rfl (Yd.asI rfl) ?_
      refine LJ.nil ?_
      refine CJ.seq ?_
      refine CJ.region ?_
      refine LJ.yd rfl (Yd.mvS rfl) ?_
      refine LJ.yd rfl (Yd.mvI rfl) ?_
      refine LJ.yd rfl (Yd.mvI rfl) ?_
      refine LJ.idxR 0 rfl rfl rfl rfl (by omega) (by first | rfl | omega | (simp; done) | (simp; omega) | (simp [upN_len]; omega) | (simp [idxBy_len]; omega) | (simp [marks_len]; omega) | (simp [upN_len]; done) | (simp [idxBy_len]; done) | (simp [marks_len]; done) | (simp at *; omega)) (by first | rfl | omega | (simp; done) | (simp; omega) | (simp [upN_len]; omega) | (simp [idxBy_len]; omega) | (simp [marks_len]; omega) | (simp [upN_len]; done) | (simp [idxBy_len]; done) | (simp [marks_len]; done) | (simp at *; omega)) (fun ib29 ia29 => ?_)
      refine LJ.yd rfl (Yd.fieldAddr rfl) ?_
      refine LJ.op rfl (OpR.stR (enc := Box.enc) (u' := ⟨y, y + 1, y + 1 + 1, u.H⟩) 0 2 rfl ia29 rfl rfl (List.getElem?_set_self (by first | omega | (simp; omega))) rfl rfl rfl rfl rfl) ?_
      rintro _ _ ⟨rfl, rfl⟩
      refine LJ.norm [_] rfl ?_
      refine LJ.nil ?_
      refine CJ.seq ?_
      refine CJ.region ?_
      refine LJ.yd rfl (Yd.mvI rfl) ?_
      refine LJ.yd rfl (Yd.add rfl rfl (by unfold I64; omega)) ?_
      refine LJ.yd rfl (Yd.asI rfl) ?_
      refine LJ.nil ?_
      refine CJ.seq ?_
      refine CJ.region ?_
      refine LJ.yd rfl (Yd.mvS rfl) ?_
      refine LJ.yd rfl (Yd.mvI rfl) ?_
      refine LJ.yd rfl (Yd.mvI rfl) ?_
      refine LJ.idxR 0 rfl rfl rfl rfl (by omega) (by first | rfl | omega | (simp; done) | (simp; omega) | (simp [upN_len]; omega) | (simp [idxBy_len]; omega) | (simp [marks_len]; omega) | (simp [upN_len]; done) | (simp [idxBy_len]; done) | (simp [marks_len]; done) | (simp at *; omega)) (by first | rfl | omega | (simp; done) | (simp; omega) | (simp [upN_len]; omega) | (simp [idxBy_len]; omega) | (simp [marks_len]; omega) | (simp [upN_len]; done) | (simp [idxBy_len]; done) | (simp [marks_len]; done) | (simp at *; omega)) (fun ib36 ia36 => ?_)
      refine LJ.yd rfl (Yd.fieldAddr rfl) ?_
      refine LJ.op rfl (OpR.stR (enc := Box.enc) (u' := ⟨y, y + 1, y + 1 + 1, y + 1 + 1 + 1⟩) 0 3 rfl ia36 rfl rfl (List.getElem?_set_self (by first | omega | (simp; omega))) rfl rfl rfl rfl rfl) ?_
      rintro _ _ ⟨rfl, rfl⟩
      refine LJ.norm [_] rfl ?_
      refine LJ.nil ?_
      refine CJ.region ?_
      refine LJ.yd rfl (Yd.mvI rfl) ?_
      refine LJ.yd rfl (Yd.add rfl rfl (by unfold I64; omega)) ?_
      refine LJ.yd rfl (Yd.asI rfl) ?_
      refine LJ.nil ?_
      refine CJ.region ?_
      refine LJ.yd rfl (Yd.mvI rfl) ?_
      refine LJ.yd rfl (Yd.add rfl rfl (by unfold I64; omega)) ?_
      refine LJ.yd rfl (Yd.asI rfl) ?_
      refine LJ.nil ?_
      refine ⟨(k + 1, _, _), ?_, ⟨rfl, rfl, trivial⟩, ⟨rfl, rfl, trivial⟩, Ent.refl _, ?_⟩
      · refine ⟨by omega, ?_⟩
        refine ⟨by omega, by simp [hL], fun j hj => ?_⟩
        by_cases e : j = k
        · subst e
          rw [List.getElem?_set_self (by simp; omega), mb, hy]
        · rw [List.getElem?_set_ne (by omega), List.getElem?_set_ne (by omega), List.getElem?_set_ne (by omega), List.getElem?_set_ne (by omega)]
          exact hLj j (by omega)
      · first | omega | (dsimp only; omega) | (simp only []; omega)
    · refine LJ.nil ?_
      refine CJ.condF rfl ?_
      refine CJ.exit ?_
      refine CJ.seq ?_
      refine CJ.region ?_
      refine LJ.yd rfl (Yd.mvI rfl) ?_
      refine LJ.yd rfl (Yd.asI rfl) ?_
      refine LJ.nil ?_
      refine CJ.ret ?_
      obtain rfl : k = l.length := by omega
      rw [← hy]
      have e : L = mbx k0 l.length := List.ext_getElem? fun j => by
        rcases Nat.lt_or_ge j l.length with hj | hj
        · rw [hLj j hj, mbx_get hj]
        · rw [List.getElem?_eq_none (by omega), List.getElem?_eq_none (by rw [mbx_len]; omega)]
      rw [← e]
      exact Fin.R [_] (Res.one (ResV.tmp (v := .int _ _) rfl)) ⟨rfl, rfl⟩ (Ent.pick [0] [] rfl)
theorem heldBoxS_ok {A : Amb} {v : Value} {n : Nat} {k0 : Int} (hl : RdL Box.enc 4 A.h v (mbx k0 n)) (h0 : 0 ≤ k0) (h1 : k0 ≤ 1000000000000000) (hn : n ≤ 2000000) : Ctr Try.prog 72 #[v, vI k0] A [] (Val (vI (k0 + 4 * n))) := by
  obtain ⟨la, lc, rfl, hlb, hl⟩ := hl.un
  have hml := mbx_len (k := k0) (n := n)
  refine Ctr.body (args := [_, _]) Try.func72 rfl Try.ntmps72 Try.results72 (by simp) ?_
  refine CJ.seq ?_
  refine CJ.region ?_
  refine LJ.yd rfl (Yd.asI rfl) ?_
  refine LJ.nil ?_
  refine CJ.seq ?_
  refine CJ.seq ?_
  refine CJ.region ?_
  refine LJ.yd rfl (Yd.asI rfl) ?_
  refine LJ.nil ?_
  refine CJ.block ?_
  refine CJ.loopK [0] (Nat × Int) (fun ⟨k, y⟩ => k ≤ (mbx k0 n).length ∧ y = k0 + 4 * k) (fun ⟨k, y⟩ => [(5, vI k), (1, vI y)]) (fun ⟨k, y⟩ => (mbx k0 n).length - k) (0, k0) ?_ ⟨rfl, rfl, trivial⟩ ?_
  · exact ⟨by omega, by omega⟩
  · rintro ⟨k, y⟩ σ ⟨hk1, hy⟩
    refine CJ.seq ?_
    refine CJ.seq ?_
    refine CJ.region ?_
    refine LJ.yd rfl (Yd.mvI rfl) ?_
    refine LJ.yd rfl (Yd.mvS rfl) ?_
    refine LJ.yd rfl (Yd.len rfl) ?_
    refine LJ.splitD rfl (Yd.lss rfl rfl) (fun h9 => ?_) (fun h9 => ?_)
    · refine LJ.nil ?_
      refine CJ.condT rfl ?_
      refine CJ.skip ?_
      refine CJ.seq ?_
      refine CJ.block ?_
      refine CJ.seq ?_
      refine CJ.seq ?_
      refine CJ.region ?_
      refine LJ.yd rfl (Yd.mvS rfl) ?_
      refine LJ.yd rfl (Yd.mvI rfl) ?_
      refine LJ.idxA rfl hl rfl rfl (by omega) (by first | rfl | omega | (simp; done) | (simp; omega) | (simp [upN_len]; omega) | (simp [idxBy_len]; omega) | (simp [marks_len]; omega) | (simp [upN_len]; done) | (simp [idxBy_len]; done) | (simp [marks_len]; done) | (simp at *; omega)) (fun ib14 io14 ia14 ir14 => ?_)
      refine LJ.yd rfl (Yd.fieldAddr rfl) ?_
      refine LJ.ldA 0 (fun u => vI u.X) (fun _ => rfl) ir14 rfl rfl rfl (by first | rfl | omega | (simp; done) | (simp; omega) | (simp [upN_len]; omega) | (simp [idxBy_len]; omega) | (simp [marks_len]; omega) | (simp [upN_len]; done) | (simp [idxBy_len]; done) | (simp [marks_len]; done) | (simp at *; omega)) (fun u16 hu16 => ?_)
      try simp only [Int.toNat_natCast] at hu16
      refine LJ.yd rfl (Yd.mvI rfl) ?_
      refine LJ.yd rfl (Yd.cmpNF (Yd.neq rfl rfl) (by rw [mbx_at hu16, mb, hy])) ?_
      refine LJ.nil ?_
      refine CJ.condF rfl ?_
      refine CJ.skip ?_
      refine CJ.seq ?_
      refine CJ.region ?_
      refine LJ.yd rfl (Yd.mvI rfl) ?_
      refine LJ.yd rfl (Yd.add rfl rfl (by unfold I64; omega)) ?_
      refine LJ.yd rfl (Yd.asI rfl) ?_
      refine LJ.nil ?_
      refine CJ.seq ?_
      refine CJ.seq ?_
      refine CJ.region ?_
      refine LJ.yd rfl (Yd.mvS rfl) ?_
      refine LJ.yd rfl (Yd.mvI rfl) ?_
      refine LJ.idxA rfl hl rfl rfl (by omega) (by first | rfl | omega | (simp; done) | (simp; omega) | (simp [upN_len]; omega) | (simp [idxBy_len]; omega) | (simp [marks_len]; omega) | (simp [upN_len]; done) | (simp [idxBy_len]; done) | (simp [marks_len]; done) | (simp at *; omega)) (fun ib23 io23 ia23 ir23 => ?_)
      refine LJ.yd rfl (Yd.fieldAddr rfl) ?_
      refine LJ.ldA 1 (fun u => vI u.Y) (fun _ => rfl) ir23 rfl rfl rfl (by first | rfl | omega | (simp; done) | (simp; omega) | (simp [upN_len]; omega) | (simp [idxBy_len]; omega) | (simp [marks_len]; omega) | (simp [upN_len]; done) | (simp [idxBy_len]; done) | (simp [marks_len]; done) | (simp at *; omega)) (fun u25 hu25 => ?_)
      try simp only [Int.toNat_natCast] at hu25
      refine LJ.yd rfl (Yd.mvI rfl) ?_
      refine LJ.yd rfl (Yd.cmpNF (Yd.neq rfl rfl) (by rw [mbx_at hu25, mb, hy])) ?_
      refine LJ.nil ?_
      refine CJ.condF rfl ?_
      refine CJ.skip ?_
      refine CJ.seq ?_
      refine CJ.region ?_
      refine LJ.yd rfl (Yd.mvI rfl) ?_
      refine LJ.yd rfl (Yd.add rfl rfl (by unfold I64; omega)) ?_
      refine LJ.yd rfl (Yd.asI rfl) ?_
      refine LJ.nil ?_
      refine CJ.seq ?_
      refine CJ.seq ?_
      refine CJ.region ?_
      refine LJ.yd rfl (Yd.mvS rfl) ?_
      refine LJ.yd rfl (Yd.mvI rfl) ?_
      refine LJ.idxA rfl hl rfl rfl (by omega) (by first | rfl | omega | (simp; done) | (simp; omega) | (simp [upN_len]; omega) | (simp [idxBy_len]; omega) | (simp [marks_len]; omega) | (simp [upN_len]; done) | (simp [idxBy_len]; done) | (simp [marks_len]; done) | (simp at *; omega)) (fun ib32 io32 ia32 ir32 => ?_)
      refine LJ.yd rfl (Yd.fieldAddr rfl) ?_
      refine LJ.ldA 2 (fun u => vI u.W) (fun _ => rfl) ir32 rfl rfl rfl (by first | rfl | omega | (simp; done) | (simp; omega) | (simp [upN_len]; omega) | (simp [idxBy_len]; omega) | (simp [marks_len]; omega) | (simp [upN_len]; done) | (simp [idxBy_len]; done) | (simp [marks_len]; done) | (simp at *; omega)) (fun u34 hu34 => ?_)
      try simp only [Int.toNat_natCast] at hu34
      refine LJ.yd rfl (Yd.mvI rfl) ?_
      refine LJ.yd rfl (Yd.cmpNF (Yd.neq rfl rfl) (by rw [mbx_at hu34, mb, hy])) ?_
      refine LJ.nil ?_
      refine CJ.condF rfl ?_
      refine CJ.skip ?_
      refine CJ.seq ?_
      refine CJ.region ?_
      refine LJ.yd rfl (Yd.mvI rfl) ?_
      refine LJ.yd rfl (Yd.add rfl rfl (by unfold I64; omega)) ?_
      refine LJ.yd rfl (Yd.asI rfl) ?_
      refine LJ.nil ?_
      refine CJ.seq ?_
      refine CJ.seq ?_
      refine CJ.region ?_
      refine LJ.yd rfl (Yd.mvS rfl) ?_
      refine LJ.yd rfl (Yd.mvI rfl) ?_
      refine LJ.idxA rfl hl rfl rfl (by omega) (by first | rfl | omega | (simp; done) | (simp; omega) | (simp [upN_len]; omega) | (simp [idxBy_len]; omega) | (simp [marks_len]; omega) | (simp [upN_len]; done) | (simp [idxBy_len]; done) | (simp [marks_len]; done) | (simp at *; omega)) (fun ib41 io41 ia41 ir41 => ?_)
      refine LJ.yd rfl (Yd.fieldAddr rfl) ?_
      refine LJ.ldA 3 (fun u => vI u.H) (fun _ => rfl) ir41 rfl rfl rfl (by first | rfl | omega | (simp; done) | (simp; omega) | (simp [upN_len]; omega) | (simp [idxBy_len]; omega) | (simp [marks_len]; omega) | (simp [upN_len]; done) | (simp [idxBy_len]; done) | (simp [marks_len]; done) | (simp at *; omega)) (fun u43 hu43 => ?_)
      try simp only [Int.toNat_natCast] at hu43
      refine LJ.yd rfl (Yd.mvI rfl) ?_
      refine LJ.yd rfl (Yd.cmpNF (Yd.neq rfl rfl) (by rw [mbx_at hu43, mb, hy])) ?_
      refine LJ.nil ?_
      refine CJ.condF rfl ?_
      refine CJ.skip ?_
      refine CJ.region ?_
      refine LJ.yd rfl (Yd.mvI rfl) ?_
      refine LJ.yd rfl (Yd.add rfl rfl (by unfold I64; omega)) ?_
      refine LJ.yd rfl (Yd.asI rfl) ?_
      refine LJ.nil ?_
      refine CJ.region ?_
      refine LJ.yd rfl (Yd.mvI rfl) ?_
      refine LJ.yd rfl (Yd.add rfl rfl (by unfold I64; omega)) ?_
      refine LJ.yd rfl (Yd.asI rfl) ?_
      refine LJ.nil ?_
      refine ⟨(k + 1, _), ?_, ⟨rfl, trivial⟩, ⟨rfl, rfl, trivial⟩, Ent.refl _, ?_⟩
      · refine ⟨by omega, ?_⟩
        first | assumption | omega | (simp_all; done) | (simp_all; omega)
      · first | omega | (dsimp only; omega) | (simp only []; omega)
    · refine LJ.nil ?_
      refine CJ.condF rfl ?_
      refine CJ.exit ?_
      refine CJ.seq ?_
      refine CJ.region ?_
      refine LJ.yd rfl (Yd.mvI rfl) ?_
      refine LJ.yd rfl (Yd.asI rfl) ?_
      refine LJ.nil ?_
      refine CJ.ret ?_
      refine Fin.V (Res.one (ResV.tmp (v := .int _ _) rfl)) ?_
      rw [hy, show k = n by omega]
theorem heldBoxS_e {A : Amb} {v : Value} {n : Nat} {k0 : Int} {l : List Box} (hl : RdL Box.enc 4 A.h v l) (e : l = mbx k0 n) (h0 : 0 ≤ k0) (h1 : k0 ≤ 1000000000000000) (hn : n ≤ 2000000) : Ctr Try.prog 72 #[v, vI k0] A [] (Val (vI (k0 + 4 * n))) := by
  subst e; exact heldBoxS_ok hl h0 h1 hn
def mkP (k : Int) (p : Piece) : Piece := ⟨k, k + 1, k + 1 + 1, mbx (k + 1 + 1 + 1) p.fl.length⟩
def mkN : List Piece → Int
  | [] => 0
  | p :: r => 3 + 4 * p.fl.length + mkN r
def mkQ : Int → List Piece → List Piece
  | _, [] => []
  | k, p :: r => mkP k p :: mkQ (k + 3 + 4 * p.fl.length) r
theorem mkN_nonneg : ∀ L : List Piece, 0 ≤ mkN L
  | [] => Int.le_refl _
  | p :: r => by have := mkN_nonneg r; rw [mkN]; omega
theorem mkN_append {L M : List Piece} : mkN (L ++ M) = mkN L + mkN M := by
  induction L with
  | nil => simp [mkN]
  | cons p r ih => simp only [List.cons_append, mkN, ih]; omega
theorem mkN_le {L : List Piece} (h : ∀ p ∈ L, p.fl.length ≤ 2000000) : mkN L ≤ 8000003 * L.length := by
  induction L with
  | nil => simp [mkN]
  | cons p r ih =>
    have h1 := ih fun q hq => h q (by simp [hq])
    have h2 := h p (by simp)
    simp only [mkN, List.length_cons]; omega
theorem mkQ_len : ∀ {L : List Piece} {k : Int}, (mkQ k L).length = L.length
  | [], _ => rfl
  | p :: r, k => by simp [mkQ, mkQ_len (L := r)]
theorem mkQ_snoc {p : Piece} : ∀ {L : List Piece} {k : Int}, mkQ k (L ++ [p]) = mkQ k L ++ [mkP (k + mkN L) p]
  | [], k => by simp [mkQ, mkN]
  | q :: r, k => by
    rw [List.cons_append, mkQ, mkQ_snoc (L := r), mkQ, mkN, List.cons_append]
    congr 4; omega
theorem mkQ_at : ∀ {L : List Piece} {k : Int} {j : Nat} {p q : Piece}, L[j]? = some p → (mkQ k L)[j]? = some q → q = mkP (k + mkN (L.take j)) p
  | x :: r, k, 0, p, q, h1, h2 => by
    simp only [mkQ, List.getElem?_cons_zero, Option.some.injEq] at h1 h2
    subst h1 h2; simp [mkN]
  | x :: r, k, j + 1, p, q, h1, h2 => by
    simp only [mkQ, List.getElem?_cons_succ] at h1 h2
    rw [mkQ_at h1 h2, List.take_succ_cons, mkN]
    congr 1; omega
theorem mkN_step {X : List Pc} {k : Nat} {u : Pc} (h : X[k]? = some u) : mkN (psX (X.take (k + 1))) = mkN (psX (X.take k)) + 3 + 4 * u.p.fl.length := by
  rw [takeC h, psX_snoc, mkN_append]; simp only [mkN]; omega
theorem LRQ.cong {E : TypeId} {a : Option Addr} {c : Nat} {M N : List Pc} {h : Hp} (e : M.map encQ = N.map encQ) (r : LR encQ E 4 a c M h) : LR encQ E 4 a c N h := by
  show Row E 4 a c (N.map encQ) h
  rw [← e]; exact r
theorem set_at {P Q : List Piece} {x y : Piece} {k : Nat} (h : P.length = k) : (P ++ x :: Q).set k y = P ++ y :: Q := by
  subst h; simp
theorem mk_step {L Y : List Pc} {k : Nat} {k0 : Int} {u : Pc} {a : Option Addr} {c : Nat} (hL : psX L = mkQ k0 (psX (Y.take k)) ++ psX (Y.drop k)) (hu : Y[k]? = some u) : psX (L.set k ⟨mkP (k0 + mkN (psX (Y.take k))) u.p, a, c⟩) = mkQ k0 (psX (Y.take (k + 1))) ++ psX (Y.drop (k + 1)) := by
  have hk := (List.getElem?_eq_some_iff.1 hu).1
  rw [psX, List.map_set]
  show (psX L).set k _ = _
  rw [hL, dropC hu]
  show (mkQ k0 (psX (Y.take k)) ++ u.p :: psX (Y.drop (k + 1))).set k _ = _
  rw [set_at (by rw [mkQ_len, List.length_map, List.length_take]; omega), takeC hu, psX_snoc, mkQ_snoc, List.append_assoc]
  rfl
theorem markPieceS_ok {A : Amb} {a : Option Addr} {m c : Nat} {Y : List Pc} {k0 : Int} (hm : m = Y.length) (h0 : 0 ≤ k0) (h1 : k0 ≤ 100000000000000) (hn : Y.length ≤ 2000000) (hb : ∀ u ∈ Y, u.p.fl.length ≤ 2000000) :
    Ctr Try.prog 37 #[.slice a m c, vI k0] A [LR encQ 31 4 a c Y, INN rowQ Y] (fun v gs => ∃ Y2 : List Pc, v = vI (k0 + mkN (psX Y)) ∧ gs = [LR encQ 31 4 a c Y2, INN rowQ Y2] ∧ psX Y2 = mkQ k0 (psX Y) ∧ Y2.length = Y.length) := by
  subst hm
  refine Ctr.body (args := [_, _]) Try.func37 rfl Try.ntmps37 Try.results37 (by simp) ?_
  refine CJ.seq ?_
  refine CJ.region ?_
  refine LJ.yd rfl (Yd.asI rfl) ?_
  refine LJ.nil ?_
  refine CJ.seq ?_
  refine CJ.seq ?_
  refine CJ.region ?_
  refine LJ.yd rfl (Yd.asI rfl) ?_
  refine LJ.nil ?_
  refine CJ.block ?_
  refine CJ.loopF [0, 4] (Nat × Int × List Pc) (fun ⟨k, y, L⟩ => k ≤ Y.length ∧ y = k0 + mkN (psX (Y.take k)) ∧ L.length = Y.length ∧ psX L = mkQ k0 (psX (Y.take k)) ++ psX (Y.drop k) ∧ ∀ j, k ≤ j → L[j]? = Y[j]?) (fun ⟨k, y, L⟩ => [(5, vI k), (1, vI y)]) (fun ⟨k, y, L⟩ => [LR encQ 31 4 a c L, INN rowQ L]) (fun ⟨k, y, L⟩ => Y.length - k) (0, k0, Y) [] [] [0, 1] rfl rfl rfl ?_ ⟨rfl, rfl, trivial⟩ ?_
  · exact ⟨by omega, by simp [mkN], rfl, by simp [mkQ], fun _ _ => rfl⟩
  · rintro ⟨k, y, L⟩ σ ⟨hk1, hy, hLl, hL, hLj⟩
    refine CJ.norm [_, _] rfl ?_
    refine CJ.seq ?_
    refine CJ.seq ?_
    refine CJ.region ?_
    refine LJ.yd rfl (Yd.mvI rfl) ?_
    refine LJ.yd rfl (Yd.mvS rfl) ?_
    refine LJ.yd rfl (Yd.len rfl) ?_
    refine LJ.splitD rfl (Yd.lss rfl rfl) (fun h9 => ?_) (fun h9 => ?_)
    · refine LJ.nil ?_
      refine CJ.condT rfl ?_
      refine CJ.skip ?_
      refine CJ.seq ?_
      refine CJ.block ?_
      refine CJ.seq ?_
      obtain ⟨u, hu⟩ := someC (l := L) (j := k) (by omega)
      have hYu : Y[k]? = some u := by rw [← hLj k (Nat.le_refl _)]; exact hu
      have hub := hb u (List.mem_of_getElem? hYu)
      have hNs := mkN_step hYu
      have hN0 := mkN_nonneg (psX (Y.take k))
      have hN1 := mkN_le (L := psX (Y.take k)) (fun p hp => by obtain ⟨z, hz, rfl⟩ := List.mem_map.1 hp; exact hb z (List.mem_of_mem_take hz))
      rw [List.length_map, List.length_take, Nat.min_eq_left hk1] at hN1
      refine CJ.region ?_
      refine LJ.yd rfl (Yd.mvS rfl) ?_
      refine LJ.yd rfl (Yd.mvI rfl) ?_
      refine LJ.yd rfl (Yd.mvI rfl) ?_
      refine LJ.idxR 0 rfl rfl rfl rfl (by omega) (by first | rfl | omega | (simp; done) | (simp; omega) | (simp [upN_len]; omega) | (simp [idxBy_len]; omega) | (simp [marks_len]; omega) | (simp [upN_len]; done) | (simp [idxBy_len]; done) | (simp [marks_len]; done) | (simp at *; omega)) (by first | rfl | omega | (simp; done) | (simp; omega) | (simp [upN_len]; omega) | (simp [idxBy_len]; omega) | (simp [marks_len]; omega) | (simp [upN_len]; done) | (simp [idxBy_len]; done) | (simp [marks_len]; done) | (simp at *; omega)) (fun ib15 ia15 => ?_)
      refine LJ.yd rfl (Yd.fieldAddr rfl) ?_
      refine LJ.op rfl (OpR.stR (enc := encQ) (u' := ⟨⟨y, u.p.w, u.p.h, u.p.fl⟩, u.a, u.c⟩) 0 0 rfl ia15 rfl rfl hu rfl rfl rfl rfl rfl) ?_
      rintro _ _ ⟨rfl, rfl⟩
      refine LJ.norm [_, _] rfl ?_
      refine LJ.nil ?_
      refine CJ.seq ?_
      refine CJ.region ?_
      refine LJ.yd rfl (Yd.mvI rfl) ?_
      refine LJ.yd rfl (Yd.add rfl rfl (by unfold I64; omega)) ?_
      refine LJ.yd rfl (Yd.asI rfl) ?_
      refine LJ.nil ?_
      refine CJ.seq ?_
      refine CJ.region ?_
      refine LJ.yd rfl (Yd.mvS rfl) ?_
      refine LJ.yd rfl (Yd.mvI rfl) ?_
      refine LJ.yd rfl (Yd.mvI rfl) ?_
      refine LJ.idxR 0 rfl rfl rfl rfl (by omega) (by first | rfl | omega | (simp; done) | (simp; omega) | (simp [upN_len]; omega) | (simp [idxBy_len]; omega) | (simp [marks_len]; omega) | (simp [upN_len]; done) | (simp [idxBy_len]; done) | (simp [marks_len]; done) | (simp at *; omega)) (by first | rfl | omega | (simp; done) | (simp; omega) | (simp [upN_len]; omega) | (simp [idxBy_len]; omega) | (simp [marks_len]; omega) | (simp [upN_len]; done) | (simp [idxBy_len]; done) | (simp [marks_len]; done) | (simp at *; omega)) (fun ib22 ia22 => ?_)
      refine LJ.yd rfl (Yd.fieldAddr rfl) ?_
      refine LJ.op rfl (OpR.stR (enc := encQ) (u' := ⟨⟨y, y + 1, u.p.h, u.p.fl⟩, u.a, u.c⟩) 0 1 rfl ia22 rfl rfl (List.getElem?_set_self (by first | omega | (simp; omega))) rfl rfl rfl rfl rfl) ?_
      rintro _ _ ⟨rfl, rfl⟩
      refine LJ.norm [_, _] rfl ?_
      refine LJ.nil ?_
      refine CJ.seq ?_
      refine CJ.region ?_
      refine LJ.yd rfl (Yd.mvI rfl) ?_
      refine LJ.yd rfl (Yd.add rfl rfl (by unfold I64; omega)) ?_
      refine LJ.yd rfl (Yd.asI rfl) ?_
      refine LJ.nil ?_
      refine CJ.seq ?_
      refine CJ.region ?_
      refine LJ.yd rfl (Yd.mvS rfl) ?_
      refine LJ.yd rfl (Yd.mvI rfl) ?_
      refine LJ.yd rfl (Yd.mvI rfl) ?_
      refine LJ.idxR 0 rfl rfl rfl rfl (by omega) (by first | rfl | omega | (simp; done) | (simp; omega) | (simp [upN_len]; omega) | (simp [idxBy_len]; omega) | (simp [marks_len]; omega) | (simp [upN_len]; done) | (simp [idxBy_len]; done) | (simp [marks_len]; done) | (simp at *; omega)) (by first | rfl | omega | (simp; done) | (simp; omega) | (simp [upN_len]; omega) | (simp [idxBy_len]; omega) | (simp [marks_len]; omega) | (simp [upN_len]; done) | (simp [idxBy_len]; done) | (simp [marks_len]; done) | (simp at *; omega)) (fun ib29 ia29 => ?_)
      refine LJ.yd rfl (Yd.fieldAddr rfl) ?_
      refine LJ.op rfl (OpR.stR (enc := encQ) (u' := ⟨⟨y, y + 1, y + 1 + 1, u.p.fl⟩, u.a, u.c⟩) 0 2 rfl ia29 rfl rfl (List.getElem?_set_self (by first | omega | (simp; omega))) rfl rfl rfl rfl rfl) ?_
      rintro _ _ ⟨rfl, rfl⟩
      refine LJ.norm [_, _] rfl ?_
      refine LJ.nil ?_
      refine CJ.seq ?_
      refine CJ.region ?_
      refine LJ.yd rfl (Yd.mvI rfl) ?_
      refine LJ.yd rfl (Yd.add rfl rfl (by unfold I64; omega)) ?_
      refine LJ.yd rfl (Yd.asI rfl) ?_
      refine LJ.nil ?_
      refine CJ.region ?_
      refine LJ.yd rfl (Yd.mvS rfl) ?_
      refine LJ.yd rfl (Yd.mvI rfl) ?_
      refine LJ.idxR 0 rfl rfl rfl rfl (by omega) (by first | rfl | omega | (simp; done) | (simp; omega) | (simp [upN_len]; omega) | (simp [idxBy_len]; omega) | (simp [marks_len]; omega) | (simp [upN_len]; done) | (simp [idxBy_len]; done) | (simp [marks_len]; done) | (simp at *; omega)) (by first | rfl | omega | (simp; done) | (simp; omega) | (simp [upN_len]; omega) | (simp [idxBy_len]; omega) | (simp [marks_len]; omega) | (simp [upN_len]; done) | (simp [idxBy_len]; done) | (simp [marks_len]; done) | (simp at *; omega)) (fun ib35 ia35 => ?_)
      refine LJ.yd rfl (Yd.fieldAddr rfl) ?_
      refine LJ.ldR 0 3 (fun u => .slice u.a u.p.fl.length u.c) (fun _ => rfl) rfl ia35 rfl rfl rfl (by first | rfl | omega | (simp; done) | (simp; omega) | (simp [upN_len]; omega) | (simp [idxBy_len]; omega) | (simp [marks_len]; omega) | (simp [upN_len]; done) | (simp [idxBy_len]; done) | (simp [marks_len]; done) | (simp at *; omega)) (fun u37 hu37 => ?_)
      try simp only [Int.toNat_natCast] at hu37
      refine LJ.ent (Ent.pickSts [0] [1] rfl (fun _ s => INN.open hu s)) ?_
      refine LJ.norm [_, _, _] rfl ?_
      rw [List.getElem?_set_self (by simp; omega)] at hu37
      obtain rfl := Option.some.inj hu37
      refine LJ.yd rfl (Yd.mvI rfl) ?_
      refine LJ.call (pickF _ [0, 2]) (pickF _ [1]) rfl (perm_pickF _ [0, 2] [1] rfl) (fun k hk dk => markBoxS_ok rfl (by omega) (by omega) (by first | omega | (dsimp only; omega))) ?_
      rintro _ _ ⟨rfl, rfl⟩
      refine LJ.norm [_, _, _] rfl ?_
      refine LJ.yd rfl (Yd.asI rfl) ?_
      refine LJ.nil ?_
      refine CJ.ent (Ent.pickFold [0] [2, 1] [] rfl (fun _ s => INN.close (f := rowQ) (xs := L) (j := k) (v := (⟨mkP y u.p, u.a, u.c⟩ : Pc)) (by omega) s)) ?_
      refine CJ.norm [_, _] rfl ?_
      refine CJ.imp1 (G := LR encQ 31 4 a c (L.set k ⟨mkP y u.p, u.a, u.c⟩)) 0 rfl (fun _ r => LRQ.cong (by simp [List.map_set, encQ, mkP, mbx_len]) r) ?_
      refine CJ.norm [_, _] rfl ?_
      refine CJ.region ?_
      refine LJ.yd rfl (Yd.mvI rfl) ?_
      refine LJ.yd rfl (Yd.add rfl rfl (by unfold I64; omega)) ?_
      refine LJ.yd rfl (Yd.asI rfl) ?_
      refine LJ.nil ?_
      refine ⟨(k + 1, y + 1 + 1 + 1 + 4 * u.p.fl.length, L.set k ⟨mkP y u.p, u.a, u.c⟩), ?_, ⟨rfl, rfl, trivial⟩, ⟨rfl, rfl, trivial⟩, Ent.refl _, ?_⟩
      · refine ⟨by omega, ?_⟩
        refine ⟨by rw [mkN_step hYu, hy]; omega, by simp [hLl], ?_, fun j hj => by rw [List.getElem?_set_ne (by omega)]; exact hLj j (by omega)⟩
        rw [hy]
        exact mk_step hL hYu
      · first | omega | (dsimp only; omega) | (simp only []; omega)
    · refine LJ.nil ?_
      refine CJ.condF rfl ?_
      refine CJ.exit ?_
      refine CJ.seq ?_
      refine CJ.region ?_
      refine LJ.yd rfl (Yd.mvI rfl) ?_
      refine LJ.yd rfl (Yd.asI rfl) ?_
      refine LJ.nil ?_
      refine CJ.ret ?_
      obtain rfl : k = Y.length := by omega
      rw [List.take_of_length_le (Nat.le_refl _)] at hy hL
      rw [List.drop_of_length_le (Nat.le_refl _)] at hL
      rw [← hy]
      exact Fin.R [_, _] (Res.one (ResV.tmp (v := .int _ _) rfl)) ⟨L, rfl, rfl, by rw [hL]; simp, hLl⟩ (Ent.pick [0, 1] [] rfl)
theorem markPiece_ok {A : Amb} {a : Option Addr} {c : Nat} {p : Piece} {k0 : Int} (h0 : 0 ≤ k0) (h1 : k0 ≤ 100000000000000) (hn : p.fl.length ≤ 2000000) :
    Ctr Try.prog 38 #[.agg #[vI p.l, vI p.w, vI p.h, .slice a p.fl.length c], vI k0] A [LR Box.enc 33 4 a c p.fl] (fun v gs => v = vI (k0 + 4 * p.fl.length) ∧ gs = [LR Box.enc 33 4 a c (mbx k0 p.fl.length)]) := by
  refine Ctr.body (args := [_, _]) Try.func38 rfl Try.ntmps38 Try.results38 (by simp) ?_
  refine CJ.seq ?_
  refine CJ.region ?_
  refine LJ.boxG (vs := [_, _, _, _]) rfl rfl (fun b1 => ?_)
  refine LJ.yd rfl (Yd.asI rfl) ?_
  refine LJ.nil ?_
  refine CJ.seq ?_
  refine CJ.region ?_
  refine LJ.yd rfl (Yd.fieldAddr rfl) ?_
  refine LJ.yd rfl (Yd.loadC 1 rfl rfl rfl) ?_
  refine LJ.yd rfl (Yd.mvI rfl) ?_
  refine LJ.call (pickF _ [1]) (pickF _ [0]) rfl (perm_pickF _ [1] [0] rfl) (fun k hk dk => markBoxS_ok rfl (by omega) (by omega) (by omega)) ?_
  rintro _ _ ⟨rfl, rfl⟩
  refine LJ.norm [_, _] rfl ?_
  refine LJ.yd rfl (Yd.asI rfl) ?_
  refine LJ.nil ?_
  refine CJ.seq ?_
  refine CJ.region ?_
  refine LJ.yd rfl (Yd.mvI rfl) ?_
  refine LJ.yd rfl (Yd.asI rfl) ?_
  refine LJ.nil ?_
  refine CJ.ret ?_
  exact Fin.R [_] (Res.one (ResV.tmp (v := .int _ _) rfl)) ⟨rfl, rfl⟩ (Ent.pick [1] [0] rfl)
theorem heldPieceS_ok {A : Amb} {v : Value} {Y : List Pc} {P : List Piece} {k0 : Int} (hl : RdL encQ 4 A.h v Y) (hx : Fls A.h Y) (e : psX Y = mkQ k0 P) (h0 : 0 ≤ k0) (h1 : k0 ≤ 100000000000000) (hn : P.length ≤ 2000000) (hb : ∀ p ∈ P, p.fl.length ≤ 2000000) : Ctr Try.prog 39 #[v, vI k0] A [] (Val (vI (k0 + mkN P))) := by
  obtain ⟨la, lc, rfl, hlb, hl⟩ := hl.un
  have eYl : Y.length = P.length := by have := congrArg List.length e; rwa [List.length_map, mkQ_len] at this
  have hat : ∀ (k : Nat) (u : Pc), Y[k]? = some u → ∃ p, P[k]? = some p ∧ u.p = mkP (k0 + mkN (P.take k)) p := fun k u hu => by
    have h1 : (psX Y)[k]? = some u.p := by rw [List.getElem?_map, hu]; rfl
    rw [e] at h1
    obtain ⟨p, hp⟩ := someC (l := P) (j := k) (by have := (List.getElem?_eq_some_iff.1 hu).1; omega)
    exact ⟨p, hp, mkQ_at hp h1⟩
  refine Ctr.body (args := [_, _]) Try.func39 rfl Try.ntmps39 Try.results39 (by simp) ?_
  refine CJ.seq ?_
  refine CJ.region ?_
  refine LJ.yd rfl (Yd.asI rfl) ?_
  refine LJ.nil ?_
  refine CJ.seq ?_
  refine CJ.seq ?_
  refine CJ.region ?_
  refine LJ.yd rfl (Yd.asI rfl) ?_
  refine LJ.nil ?_
  refine CJ.block ?_
  refine CJ.loopK [0] (Nat × Int) (fun ⟨k, y⟩ => k ≤ Y.length ∧ y = k0 + mkN (P.take k)) (fun ⟨k, y⟩ => [(5, vI k), (1, vI y)]) (fun ⟨k, y⟩ => Y.length - k) (0, k0) ?_ ⟨rfl, rfl, trivial⟩ ?_
  · exact ⟨by omega, by simp [mkN]⟩
  · rintro ⟨k, y⟩ σ ⟨hk1, hy⟩
    have hN0 := mkN_nonneg (P.take k)
    have hN1 := mkN_le (L := P.take k) (fun p hp => hb p (List.mem_of_mem_take hp))
    rw [List.length_take, Nat.min_eq_left (by omega)] at hN1
    refine CJ.seq ?_
    refine CJ.seq ?_
    refine CJ.region ?_
    refine LJ.yd rfl (Yd.mvI rfl) ?_
    refine LJ.yd rfl (Yd.mvS rfl) ?_
    refine LJ.yd rfl (Yd.len rfl) ?_
    refine LJ.splitD rfl (Yd.lss rfl rfl) (fun h9 => ?_) (fun h9 => ?_)
    · refine LJ.nil ?_
      refine CJ.condT rfl ?_
      refine CJ.skip ?_
      refine CJ.seq ?_
      refine CJ.block ?_
      refine CJ.seq ?_
      refine CJ.seq ?_
      refine CJ.region ?_
      refine LJ.yd rfl (Yd.mvS rfl) ?_
      refine LJ.yd rfl (Yd.mvI rfl) ?_
      refine LJ.idxA rfl hl rfl rfl (by omega) (by first | rfl | omega | (simp; done) | (simp; omega) | (simp [upN_len]; omega) | (simp [idxBy_len]; omega) | (simp [marks_len]; omega) | (simp [upN_len]; done) | (simp [idxBy_len]; done) | (simp [marks_len]; done) | (simp at *; omega)) (fun ib14 io14 ia14 ir14 => ?_)
      refine LJ.yd rfl (Yd.fieldAddr rfl) ?_
      refine LJ.ldA 0 (fun u => vI u.p.l) (fun _ => rfl) ir14 rfl rfl rfl (by first | rfl | omega | (simp; done) | (simp; omega) | (simp [upN_len]; omega) | (simp [idxBy_len]; omega) | (simp [marks_len]; omega) | (simp [upN_len]; done) | (simp [idxBy_len]; done) | (simp [marks_len]; done) | (simp at *; omega)) (fun u16 hu16 => ?_)
      try simp only [Int.toNat_natCast] at hu16
      refine LJ.yd rfl (Yd.mvI rfl) ?_
      refine LJ.yd rfl (Yd.cmpNF (Yd.neq rfl rfl) (by obtain ⟨p, hp, e⟩ := hat k u16 hu16; rw [e, mkP, hy])) ?_
      refine LJ.nil ?_
      refine CJ.condF rfl ?_
      refine CJ.skip ?_
      refine CJ.seq ?_
      refine CJ.region ?_
      refine LJ.yd rfl (Yd.mvI rfl) ?_
      refine LJ.yd rfl (Yd.add rfl rfl (by unfold I64; omega)) ?_
      refine LJ.yd rfl (Yd.asI rfl) ?_
      refine LJ.nil ?_
      refine CJ.seq ?_
      refine CJ.seq ?_
      refine CJ.region ?_
      refine LJ.yd rfl (Yd.mvS rfl) ?_
      refine LJ.yd rfl (Yd.mvI rfl) ?_
      refine LJ.idxA rfl hl rfl rfl (by omega) (by first | rfl | omega | (simp; done) | (simp; omega) | (simp [upN_len]; omega) | (simp [idxBy_len]; omega) | (simp [marks_len]; omega) | (simp [upN_len]; done) | (simp [idxBy_len]; done) | (simp [marks_len]; done) | (simp at *; omega)) (fun ib23 io23 ia23 ir23 => ?_)
      refine LJ.yd rfl (Yd.fieldAddr rfl) ?_
      refine LJ.ldA 1 (fun u => vI u.p.w) (fun _ => rfl) ir23 rfl rfl rfl (by first | rfl | omega | (simp; done) | (simp; omega) | (simp [upN_len]; omega) | (simp [idxBy_len]; omega) | (simp [marks_len]; omega) | (simp [upN_len]; done) | (simp [idxBy_len]; done) | (simp [marks_len]; done) | (simp at *; omega)) (fun u25 hu25 => ?_)
      try simp only [Int.toNat_natCast] at hu25
      refine LJ.yd rfl (Yd.mvI rfl) ?_
      refine LJ.yd rfl (Yd.cmpNF (Yd.neq rfl rfl) (by obtain ⟨p, hp, e⟩ := hat k u25 hu25; rw [e, mkP, hy])) ?_
      refine LJ.nil ?_
      refine CJ.condF rfl ?_
      refine CJ.skip ?_
      refine CJ.seq ?_
      refine CJ.region ?_
      refine LJ.yd rfl (Yd.mvI rfl) ?_
      refine LJ.yd rfl (Yd.add rfl rfl (by unfold I64; omega)) ?_
      refine LJ.yd rfl (Yd.asI rfl) ?_
      refine LJ.nil ?_
      refine CJ.seq ?_
      refine CJ.seq ?_
      refine CJ.region ?_
      refine LJ.yd rfl (Yd.mvS rfl) ?_
      refine LJ.yd rfl (Yd.mvI rfl) ?_
      refine LJ.idxA rfl hl rfl rfl (by omega) (by first | rfl | omega | (simp; done) | (simp; omega) | (simp [upN_len]; omega) | (simp [idxBy_len]; omega) | (simp [marks_len]; omega) | (simp [upN_len]; done) | (simp [idxBy_len]; done) | (simp [marks_len]; done) | (simp at *; omega)) (fun ib32 io32 ia32 ir32 => ?_)
      refine LJ.yd rfl (Yd.fieldAddr rfl) ?_
      refine LJ.ldA 2 (fun u => vI u.p.h) (fun _ => rfl) ir32 rfl rfl rfl (by first | rfl | omega | (simp; done) | (simp; omega) | (simp [upN_len]; omega) | (simp [idxBy_len]; omega) | (simp [marks_len]; omega) | (simp [upN_len]; done) | (simp [idxBy_len]; done) | (simp [marks_len]; done) | (simp at *; omega)) (fun u34 hu34 => ?_)
      try simp only [Int.toNat_natCast] at hu34
      refine LJ.yd rfl (Yd.mvI rfl) ?_
      refine LJ.yd rfl (Yd.cmpNF (Yd.neq rfl rfl) (by obtain ⟨p, hp, e⟩ := hat k u34 hu34; rw [e, mkP, hy])) ?_
      refine LJ.nil ?_
      refine CJ.condF rfl ?_
      refine CJ.skip ?_
      refine CJ.seq ?_
      refine CJ.region ?_
      refine LJ.yd rfl (Yd.mvI rfl) ?_
      refine LJ.yd rfl (Yd.add rfl rfl (by unfold I64; omega)) ?_
      refine LJ.yd rfl (Yd.asI rfl) ?_
      refine LJ.nil ?_
      refine CJ.seq ?_
      refine CJ.region ?_
      refine LJ.yd rfl (Yd.mvS rfl) ?_
      refine LJ.yd rfl (Yd.mvI rfl) ?_
      refine LJ.idxA rfl hl rfl rfl (by omega) (by first | rfl | omega | (simp; done) | (simp; omega) | (simp [upN_len]; omega) | (simp [idxBy_len]; omega) | (simp [marks_len]; omega) | (simp [upN_len]; done) | (simp [idxBy_len]; done) | (simp [marks_len]; done) | (simp at *; omega)) (fun ib41 io41 ia41 ir41 => ?_)
      refine LJ.yd rfl (Yd.fieldAddr rfl) ?_
      refine LJ.ldA 3 (fun u => .slice u.a u.p.fl.length u.c) (fun _ => rfl) ir41 rfl rfl rfl (by first | rfl | omega | (simp; done) | (simp; omega) | (simp [upN_len]; omega) | (simp [idxBy_len]; omega) | (simp [marks_len]; omega) | (simp [upN_len]; done) | (simp [idxBy_len]; done) | (simp [marks_len]; done) | (simp at *; omega)) (fun u43 hu43 => ?_)
      try simp only [Int.toNat_natCast] at hu43
      obtain ⟨p, hp, ep⟩ := hat k u43 hu43
      have hpb := hb p (List.mem_of_getElem? hp)
      have hfe : u43.p.fl = mbx (y + 1 + 1 + 1) p.fl.length := by rw [ep, mkP, hy]
      have hNs : mkN (P.take (k + 1)) = mkN (P.take k) + 3 + 4 * p.fl.length := by rw [takeC hp, mkN_append]; simp only [mkN]; omega
      refine LJ.yd rfl (Yd.mvI rfl) ?_
      refine LJ.callV rfl (fun k hk dk => heldBoxS_e (n := p.fl.length) (k0 := y + 1 + 1 + 1) (RdRow.up (hx u43 (List.mem_of_getElem? hu43))) hfe (by omega) (by omega) (by omega)) ?_
      refine LJ.yd rfl (Yd.asI rfl) ?_
      refine LJ.nil ?_
      refine CJ.seq ?_
      refine CJ.region ?_
      refine LJ.yd rfl (Yd.mvI rfl) ?_
      refine LJ.yd rfl (Yd.cmpF (Yd.lss rfl rfl) (by omega)) ?_
      refine LJ.nil ?_
      refine CJ.condF rfl ?_
      refine CJ.skip ?_
      refine CJ.region ?_
      refine LJ.yd rfl (Yd.mvI rfl) ?_
      refine LJ.yd rfl (Yd.add rfl rfl (by unfold I64; omega)) ?_
      refine LJ.yd rfl (Yd.asI rfl) ?_
      refine LJ.nil ?_
      refine ⟨(k + 1, _), ?_, ⟨rfl, trivial⟩, ⟨rfl, rfl, trivial⟩, Ent.refl _, ?_⟩
      · refine ⟨by omega, ?_⟩
        rw [hNs, hy]; omega
      · first | omega | (dsimp only; omega) | (simp only []; omega)
    · refine LJ.nil ?_
      refine CJ.condF rfl ?_
      refine CJ.exit ?_
      refine CJ.seq ?_
      refine CJ.region ?_
      refine LJ.yd rfl (Yd.mvI rfl) ?_
      refine LJ.yd rfl (Yd.asI rfl) ?_
      refine LJ.nil ?_
      refine CJ.ret ?_
      refine Fin.V (Res.one (ResV.tmp (v := .int _ _) rfl)) ?_
      rw [hy, List.take_of_length_le (by omega)]
theorem heldPiece_ok {A : Amb} {v : Value} {l w h : Int} {n : Nat} {k0 : Int} (hl : RdL Box.enc 4 A.h v (mbx k0 n)) (h0 : 0 ≤ k0) (h1 : k0 ≤ 100000000000000) (hn : n ≤ 2000000) : Ctr Try.prog 41 #[.agg #[vI l, vI w, vI h, v], vI k0] A [] (Val (vI (k0 + 4 * n))) := by
  obtain ⟨la, lc, rfl, hlb, hl⟩ := hl.un
  refine Ctr.body (args := [_, _]) Try.func41 rfl Try.ntmps41 Try.results41 (by simp) ?_
  refine CJ.seq ?_
  refine CJ.region ?_
  refine LJ.boxG (vs := [_, _, _, _]) rfl rfl (fun b1 => ?_)
  refine LJ.yd rfl (Yd.asI rfl) ?_
  refine LJ.nil ?_
  refine CJ.seq ?_
  refine CJ.region ?_
  refine LJ.yd rfl (Yd.fieldAddr rfl) ?_
  refine LJ.yd rfl (Yd.loadC 0 rfl rfl rfl) ?_
  refine LJ.yd rfl (Yd.mvI rfl) ?_
  refine LJ.callV rfl (fun k hk dk => heldBoxS_ok hl.up (by omega) (by omega) hn) ?_
  refine LJ.yd rfl (Yd.asI rfl) ?_
  refine LJ.nil ?_
  refine CJ.seq ?_
  refine CJ.seq ?_
  refine CJ.region ?_
  refine LJ.yd rfl (Yd.mvI rfl) ?_
  refine LJ.yd rfl (Yd.cmpF (Yd.lss rfl rfl) (by omega)) ?_
  refine LJ.nil ?_
  refine CJ.condF rfl ?_
  refine CJ.skip ?_
  refine CJ.seq ?_
  refine CJ.region ?_
  refine LJ.yd rfl (Yd.mvI rfl) ?_
  refine LJ.yd rfl (Yd.asI rfl) ?_
  refine LJ.nil ?_
  refine CJ.ret ?_
  refine Fin.V (Res.one (ResV.tmp (v := .int _ _) rfl)) ?_
  rfl
end Go.Proofs.Ytnfnidplhkfamaa
