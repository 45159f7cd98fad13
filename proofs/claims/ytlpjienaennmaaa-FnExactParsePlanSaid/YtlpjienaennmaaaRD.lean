/-
  The reader of numbers: its contracts.
-/
import Derived.Test.YtlpjienaennmaaaLI
namespace Go.Proofs.Ytlpjienaennmaaa
open Go
set_option maxRecDepth 20000
set_option maxHeartbeats 2000000

/-- bytes that can be read -/
def RdCode (h : Hp) (a : Option Addr) (n : Nat) : Prop := n = 0 ∨ ∃ b o, a = some ⟨b, o, none⟩ ∧ ∀ i < n, ∃ x : Int, 0 ≤ x ∧ x ≤ 255 ∧ h.cell ⟨b, o + i * 1, none⟩ = some (.int .u8 x)
theorem RdCode.up {A B : Amb} [AmbLe A B] {a : Option Addr} {n : Nat} (r : RdCode A.h a n) : RdCode B.h a n := by
  rcases r with r | ⟨b, o, e, r⟩
  · exact .inl r
  · exact .inr ⟨b, o, e, fun i hi => by obtain ⟨x, h0, h1, h2⟩ := r i hi; exact ⟨x, h0, h1, Hp.cell_le Go.Proofs.Ytlpjienaennmaaa.up h2⟩⟩
theorem RdCode.le {h : Hp} {a : Option Addr} {n m : Nat} (r : RdCode h a n) (l : m ≤ n) : RdCode h a m := by
  rcases r with r | ⟨b, o, e, r⟩
  · exact .inl (by omega)
  · exact .inr ⟨b, o, e, fun i hi => r i (by omega)⟩
/-- the reader -/
abbrev Rd (rb : Nat) (a : Option Addr) (n c : Nat) (p : Int) : HProp := Cel rb 116 [.slice a n c, vI p]
theorem newReader_ok {A : Amb} {a : Option Addr} {n c : Nat} (hn : n ≤ c) (h : RdCode A.h a n) (ha : 0 < n → a = none → c = 0) (hs : 0 < n → ∀ q, a = some q → q.spot = none) :
    Ctr Try.prog 47 #[.slice a n c] A [] (fun v fs => ∃ rb m, v = .pointer (some ⟨rb, 0, none⟩) ∧ m ≤ 2000 ∧ m ≤ n ∧ fs = [Rd rb a m c 0]) := by
  refine Ctr.body (args := [_]) Try.func47 rfl Try.ntmps47 Try.results47 (by simp) ?_
  refine CJ.seq ?_
  refine CJ.region ?_
  refine LJ.yd rfl (Yd.asP rfl) ?_
  refine LJ.nil ?_
  refine CJ.seq ?_
  refine CJ.seq ?_
  refine CJ.region ?_
  refine LJ.yd rfl (Yd.mvS rfl) ?_
  refine LJ.yd rfl (Yd.len rfl) ?_
  refine LJ.splitD rfl (Yd.gtr rfl rfl) (fun h5 => ?_) (fun h5 => ?_)
  · refine LJ.nil ?_
    refine CJ.condT rfl ?_
    refine CJ.region ?_
    refine LJ.yd rfl (Yd.mvS rfl) ?_
    refine LJ.yd rfl (Yd.sliceH rfl rfl (by omega) (by omega) (ha (by omega)) (hs (by omega))) ?_
    refine LJ.yd rfl (Yd.asS rfl) ?_
    refine LJ.nil ?_
    refine CJ.seq ?_
    refine CJ.region ?_
    refine LJ.yd rfl (Yd.mvS rfl) ?_
    refine LJ.yd rfl (Yd.build (cs := [_, _]) rfl) ?_
    refine LJ.boxG (vs := [_, _]) rfl rfl (fun b1 => ?_)
    refine LJ.yd rfl (Yd.asP rfl) ?_
    refine LJ.nil ?_
    refine CJ.ret ?_
    refine Fin.R [_] (Res.one (ResV.tmp (v := .pointer _) rfl)) ⟨_, _, rfl, ?_, ?_, rfl⟩ (Ent.refl _) <;> first | omega | (simp; done) | (simp; omega)
  · refine LJ.nil ?_
    refine CJ.condF rfl ?_
    refine CJ.skip ?_
    refine CJ.seq ?_
    refine CJ.region ?_
    refine LJ.yd rfl (Yd.mvS rfl) ?_
    refine LJ.yd rfl (Yd.build (cs := [_, _]) rfl) ?_
    refine LJ.boxG (vs := [_, _]) rfl rfl (fun b2 => ?_)
    refine LJ.yd rfl (Yd.asP rfl) ?_
    refine LJ.nil ?_
    refine CJ.ret ?_
    refine Fin.R [_] (Res.one (ResV.tmp (v := .pointer _) rfl)) ⟨_, _, rfl, ?_, ?_, rfl⟩ (Ent.refl _) <;> first | omega | (simp; done) | (simp; omega)
theorem pick_ok {A : Amb} {rb n c : Nat} {a : Option Addr} {p m : Int} (hc : RdCode A.h a n) (hp : 0 ≤ p) (hp' : p ≤ 100000000) :
    Ctr Try.prog 63 #[.pointer (some ⟨rb, 0, none⟩), vI m] A [Rd rb a n c p] (fun v fs => ∃ x, v = vI x ∧ 0 ≤ x ∧ (x < m ∨ x = 0) ∧ fs = [Rd rb a n c (p + 1)]) := by
  refine Ctr.body (args := [_, _]) Try.func63 rfl Try.ntmps63 Try.results63 (by simp) ?_
  refine CJ.seq ?_
  refine CJ.region ?_
  refine LJ.yd rfl (Yd.asI rfl) ?_
  refine LJ.nil ?_
  refine CJ.seq ?_
  refine CJ.region ?_
  refine LJ.yd rfl (Yd.mvP rfl) ?_
  refine LJ.yd rfl (Yd.mvP rfl) ?_
  refine LJ.yd rfl (Yd.nilCheck rfl) ?_
  refine LJ.yd rfl (Yd.fieldAddr rfl) ?_
  refine LJ.yd rfl (Yd.loadC 0 rfl rfl rfl) ?_
  refine LJ.yd rfl (Yd.add rfl rfl (by unfold I64; omega)) ?_
  refine LJ.yd rfl (Yd.nilCheck rfl) ?_
  refine LJ.yd rfl (Yd.fieldAddr rfl) ?_
  refine LJ.store (v := .int _ _) (us := [_, _]) 0 rfl rfl rfl rfl rfl rfl rfl rfl ?_
  refine LJ.nil ?_
  refine CJ.seq ?_
  refine CJ.seq ?_
  refine CJ.region ?_
  refine LJ.yd rfl (Yd.mvI rfl) ?_
  refine LJ.splitD rfl (Yd.lss rfl rfl) (fun h16 => ?_) (fun h16 => ?_)
  · refine LJ.yd rfl (Yd.mvB rfl) ?_
    refine LJ.gF rfl rfl ?_
    refine LJ.gF rfl rfl ?_
    refine LJ.gF rfl rfl ?_
    refine LJ.gF rfl rfl ?_
    refine LJ.gF rfl rfl ?_
    refine LJ.gF rfl rfl ?_
    refine LJ.yd rfl (Yd.pickTB rfl rfl) ?_
    refine LJ.nil ?_
    refine CJ.condT rfl ?_
    refine CJ.seq ?_
    refine CJ.region ?_
    refine LJ.yd rfl (Yd.asI rfl) ?_
    refine LJ.nil ?_
    refine CJ.ret ?_
    refine Fin.R [_] (Res.one (ResV.tmp (v := .int _ _) rfl)) ⟨_, rfl, ?_, ?_, rfl⟩ (Ent.refl _)
    · first | exact Int.le_refl 0 | exact Int.emod_nonneg _ (by omega)
    · first | exact .inr rfl | exact .inl (Int.emod_lt_of_pos _ (by omega))
  · refine LJ.yd rfl (Yd.mvB rfl) ?_
    refine LJ.gT rfl ?_
    refine LJ.yd rfl (Yd.mvP rfl) ?_
    refine LJ.gT rfl ?_
    refine LJ.yd rfl (Yd.nilCheck rfl) ?_
    refine LJ.gT rfl ?_
    refine LJ.yd rfl (Yd.fieldAddr rfl) ?_
    refine LJ.gT rfl ?_
    refine LJ.yd rfl (Yd.loadC 0 rfl rfl rfl) ?_
    refine LJ.gT rfl ?_
    refine LJ.yd rfl (Yd.len rfl) ?_
    refine LJ.gT rfl ?_
    refine LJ.splitD rfl (Yd.eql rfl rfl) (fun h23 => ?_) (fun h23 => ?_)
    · refine LJ.yd rfl (Yd.pickFB rfl rfl) ?_
      refine LJ.nil ?_
      refine CJ.condT rfl ?_
      refine CJ.seq ?_
      refine CJ.region ?_
      refine LJ.yd rfl (Yd.asI rfl) ?_
      refine LJ.nil ?_
      refine CJ.ret ?_
      refine Fin.R [_] (Res.one (ResV.tmp (v := .int _ _) rfl)) ⟨_, rfl, ?_, ?_, rfl⟩ (Ent.refl _)
      · first | exact Int.le_refl 0 | exact Int.emod_nonneg _ (by omega)
      · first | exact .inr rfl | exact .inl (Int.emod_lt_of_pos _ (by omega))
    · refine LJ.yd rfl (Yd.pickFB rfl rfl) ?_
      refine LJ.nil ?_
      refine CJ.condF rfl ?_
      refine CJ.skip ?_
      refine CJ.seq ?_
      refine CJ.region ?_
      refine LJ.yd rfl (Yd.mvP rfl) ?_
      refine LJ.yd rfl (Yd.nilCheck rfl) ?_
      refine LJ.yd rfl (Yd.fieldAddr rfl) ?_
      refine LJ.yd rfl (Yd.loadC 0 rfl rfl rfl) ?_
      refine LJ.yd rfl (Yd.sub rfl rfl (by unfold I64; omega)) ?_
      refine LJ.yd rfl (Yd.asI rfl) ?_
      refine LJ.nil ?_
      refine CJ.seq ?_
      refine CJ.seq ?_
      refine CJ.region ?_
      refine LJ.yd rfl (Yd.mvI rfl) ?_
      refine LJ.yd rfl (Yd.mvP rfl) ?_
      refine LJ.yd rfl (Yd.nilCheck rfl) ?_
      refine LJ.yd rfl (Yd.fieldAddr rfl) ?_
      refine LJ.yd rfl (Yd.loadC 0 rfl rfl rfl) ?_
      refine LJ.yd rfl (Yd.len rfl) ?_
      refine LJ.splitD rfl (Yd.lss rfl rfl) (fun h36 => ?_) (fun h36 => ?_)
      · refine LJ.nil ?_
        refine CJ.condT rfl ?_
        refine CJ.seq ?_
        have hp1 : p + 1 - 1 = p := by omega
        rw [hp1]
        rcases hc with hc | ⟨b, o, rfl, hc⟩
        · omega
        obtain ⟨x, hx0, hx1, hx⟩ := hc p.toNat (by omega)
        refine CJ.region ?_
        refine LJ.yd rfl (Yd.mvP rfl) ?_
        refine LJ.yd rfl (Yd.nilCheck rfl) ?_
        refine LJ.yd rfl (Yd.fieldAddr rfl) ?_
        refine LJ.yd rfl (Yd.loadC 0 rfl rfl rfl) ?_
        refine LJ.yd rfl (Yd.mvI rfl) ?_
        refine LJ.yd rfl (Yd.indexAddr rfl rfl hp (by omega)) ?_
        refine LJ.yd rfl (Yd.load rfl (Rdc.amb hx)) ?_
        refine LJ.yd rfl (Yd.convert8 rfl hx0 hx1) ?_
        refine LJ.yd rfl (Yd.mvI rfl) ?_
        refine LJ.yd rfl (Yd.rem rfl rfl hx0 (by omega)) ?_
        refine LJ.yd rfl (Yd.asI rfl) ?_
        refine LJ.nil ?_
        refine CJ.ret ?_
        refine Fin.R [_] (Res.one (ResV.tmp (v := .int _ _) rfl)) ⟨_, rfl, ?_, ?_, rfl⟩ (Ent.refl _)
        · first | exact Int.le_refl 0 | exact Int.emod_nonneg _ (by omega)
        · first | exact .inr rfl | exact .inl (Int.emod_lt_of_pos _ (by omega))
      · refine LJ.nil ?_
        refine CJ.condF rfl ?_
        refine CJ.skip ?_
        refine CJ.seq ?_
        have hp1 : p + 1 - 1 = p := by omega
        rw [hp1]
        have hn0 : 0 < n := by omega
        rcases hc with hc | ⟨b, o, rfl, hc⟩
        · omega
        have q1 := Int.emod_nonneg p (b := n) (by omega)
        have q2 := Int.emod_lt_of_pos p (b := n) (by omega)
        have q3 := Int.emod_nonneg (p * 7 + 3) (b := n) (by omega)
        have q4 := Int.emod_lt_of_pos (p * 7 + 3) (b := n) (by omega)
        have q5 : 0 ≤ p / n := Int.ediv_nonneg hp (by omega)
        have q6 : p / n ≤ p := Int.ediv_le_self _ hp
        obtain ⟨x, hx0, hx1, hx⟩ := hc (p % n).toNat (by omega)
        obtain ⟨y, hy0, hy1, hy⟩ := hc ((p * 7 + 3) % n).toNat (by omega)
        refine CJ.regionD [0] [] (by kernel_rfl) rfl ?_
        refine DJ.norm [_] [] rfl rfl ?_
        refine DJ.yd 0 rfl (by kernel_rfl) (by kernel_rfl) (by kernel_rfl) rfl rfl (Yd.mvP rfl) ?_
        refine DJ.yd 1 rfl (by kernel_rfl) (by kernel_rfl) (by kernel_rfl) rfl rfl (Yd.nilCheck rfl) ?_
        refine DJ.yd 2 rfl (by kernel_rfl) (by kernel_rfl) (by kernel_rfl) rfl rfl (Yd.fieldAddr rfl) ?_
        refine DJ.yd 3 rfl (by kernel_rfl) (by kernel_rfl) (by kernel_rfl) rfl rfl (Yd.loadC 0 rfl rfl rfl) ?_
        refine DJ.yd 4 rfl (by kernel_rfl) (by kernel_rfl) (by kernel_rfl) rfl rfl (Yd.mvI rfl) ?_
        refine DJ.yd 5 rfl (by kernel_rfl) (by kernel_rfl) (by kernel_rfl) rfl rfl (Yd.mvP rfl) ?_
        refine DJ.yd 6 rfl (by kernel_rfl) (by kernel_rfl) (by kernel_rfl) rfl rfl (Yd.nilCheck rfl) ?_
        refine DJ.yd 7 rfl (by kernel_rfl) (by kernel_rfl) (by kernel_rfl) rfl rfl (Yd.fieldAddr rfl) ?_
        refine DJ.yd 8 rfl (by kernel_rfl) (by kernel_rfl) (by kernel_rfl) rfl rfl (Yd.loadC 0 rfl rfl rfl) ?_
        refine DJ.yd 9 rfl (by kernel_rfl) (by kernel_rfl) (by kernel_rfl) rfl rfl (Yd.len rfl) ?_
        refine DJ.yd 10 rfl (by kernel_rfl) (by kernel_rfl) (by kernel_rfl) rfl rfl (Yd.rem rfl rfl (by omega) (by omega)) ?_
        refine DJ.yd 11 rfl (by kernel_rfl) (by kernel_rfl) (by kernel_rfl) rfl rfl (Yd.indexAddr rfl rfl q1 q2) ?_
        refine DJ.yd 12 rfl (by kernel_rfl) (by kernel_rfl) (by kernel_rfl) rfl rfl (Yd.load rfl (Rdc.amb hx)) ?_
        refine DJ.yd 13 rfl (by kernel_rfl) (by kernel_rfl) (by kernel_rfl) rfl rfl (Yd.convert8 rfl hx0 hx1) ?_
        refine DJ.yd 14 rfl (by kernel_rfl) (by kernel_rfl) (by kernel_rfl) rfl rfl (Yd.mul rfl rfl (by unfold I64; omega)) ?_
        refine DJ.yd 15 rfl (by kernel_rfl) (by kernel_rfl) (by kernel_rfl) rfl rfl (Yd.mvP rfl) ?_
        refine DJ.yd 16 rfl (by kernel_rfl) (by kernel_rfl) (by kernel_rfl) rfl rfl (Yd.nilCheck rfl) ?_
        refine DJ.yd 17 rfl (by kernel_rfl) (by kernel_rfl) (by kernel_rfl) rfl rfl (Yd.fieldAddr rfl) ?_
        refine DJ.yd 18 rfl (by kernel_rfl) (by kernel_rfl) (by kernel_rfl) rfl rfl (Yd.loadC 0 rfl rfl rfl) ?_
        refine DJ.yd 19 rfl (by kernel_rfl) (by kernel_rfl) (by kernel_rfl) rfl rfl (Yd.mvI rfl) ?_
        refine DJ.yd 20 rfl (by kernel_rfl) (by kernel_rfl) (by kernel_rfl) rfl rfl (Yd.mul rfl rfl (by unfold I64; omega)) ?_
        refine DJ.yd 21 rfl (by kernel_rfl) (by kernel_rfl) (by kernel_rfl) rfl rfl (Yd.add rfl rfl (by unfold I64; omega)) ?_
        refine DJ.yd 22 rfl (by kernel_rfl) (by kernel_rfl) (by kernel_rfl) rfl rfl (Yd.mvP rfl) ?_
        refine DJ.yd 23 rfl (by kernel_rfl) (by kernel_rfl) (by kernel_rfl) rfl rfl (Yd.nilCheck rfl) ?_
        refine DJ.yd 24 rfl (by kernel_rfl) (by kernel_rfl) (by kernel_rfl) rfl rfl (Yd.fieldAddr rfl) ?_
        refine DJ.yd 25 rfl (by kernel_rfl) (by kernel_rfl) (by kernel_rfl) rfl rfl (Yd.loadC 0 rfl rfl rfl) ?_
        refine DJ.yd 26 rfl (by kernel_rfl) (by kernel_rfl) (by kernel_rfl) rfl rfl (Yd.len rfl) ?_
        refine DJ.yd 27 rfl (by kernel_rfl) (by kernel_rfl) (by kernel_rfl) rfl rfl (Yd.rem rfl rfl (by omega) (by omega)) ?_
        refine DJ.yd 28 rfl (by kernel_rfl) (by kernel_rfl) (by kernel_rfl) rfl rfl (Yd.indexAddr rfl rfl q3 q4) ?_
        refine DJ.yd 29 rfl (by kernel_rfl) (by kernel_rfl) (by kernel_rfl) rfl rfl (Yd.load rfl (Rdc.amb hy)) ?_
        refine DJ.yd 30 rfl (by kernel_rfl) (by kernel_rfl) (by kernel_rfl) rfl rfl (Yd.convert8 rfl hy0 hy1) ?_
        refine DJ.yd 31 rfl (by kernel_rfl) (by kernel_rfl) (by kernel_rfl) rfl rfl (Yd.mul rfl rfl (by unfold I64; omega)) ?_
        refine DJ.yd 32 rfl (by kernel_rfl) (by kernel_rfl) (by kernel_rfl) rfl rfl (Yd.add rfl rfl (by unfold I64; omega)) ?_
        refine DJ.yd 33 rfl (by kernel_rfl) (by kernel_rfl) (by kernel_rfl) rfl rfl (Yd.mvI rfl) ?_
        refine DJ.yd 34 rfl (by kernel_rfl) (by kernel_rfl) (by kernel_rfl) rfl rfl (Yd.mul rfl rfl (by unfold I64; omega)) ?_
        refine DJ.yd 35 rfl (by kernel_rfl) (by kernel_rfl) (by kernel_rfl) rfl rfl (Yd.add rfl rfl (by unfold I64; omega)) ?_
        refine DJ.yd 36 rfl (by kernel_rfl) (by kernel_rfl) (by kernel_rfl) rfl rfl (Yd.mvI rfl) ?_
        refine DJ.yd 37 rfl (by kernel_rfl) (by kernel_rfl) (by kernel_rfl) rfl rfl (Yd.mvP rfl) ?_
        refine DJ.yd 38 rfl (by kernel_rfl) (by kernel_rfl) (by kernel_rfl) rfl rfl (Yd.nilCheck rfl) ?_
        refine DJ.yd 39 rfl (by kernel_rfl) (by kernel_rfl) (by kernel_rfl) rfl rfl (Yd.fieldAddr rfl) ?_
        refine DJ.yd 40 rfl (by kernel_rfl) (by kernel_rfl) (by kernel_rfl) rfl rfl (Yd.loadC 0 rfl rfl rfl) ?_
        refine DJ.yd 41 rfl (by kernel_rfl) (by kernel_rfl) (by kernel_rfl) rfl rfl (Yd.len rfl) ?_
        refine DJ.yd 42 rfl (by kernel_rfl) (by kernel_rfl) (by kernel_rfl) rfl rfl (Yd.quo rfl rfl (by omega) (by omega) (by unfold I64; omega)) ?_
        refine DJ.yd 43 rfl (by kernel_rfl) (by kernel_rfl) (by kernel_rfl) rfl rfl (Yd.mul rfl rfl (by unfold I64; omega)) ?_
        refine DJ.yd 44 rfl (by kernel_rfl) (by kernel_rfl) (by kernel_rfl) rfl rfl (Yd.add rfl rfl (by unfold I64; omega)) ?_
        refine DJ.yd 45 rfl (by kernel_rfl) (by kernel_rfl) (by kernel_rfl) rfl rfl (Yd.asI rfl) ?_
        refine DJ.done (by kernel_rfl) ?_
        refine CJ.seq ?_
        refine CJ.region ?_
        refine LJ.yd rfl (Yd.mvI rfl) ?_
        refine LJ.yd rfl (Yd.mvI rfl) ?_
        refine LJ.yd rfl (Yd.quo rfl rfl (by omega) (by omega) (by unfold I64; omega)) ?_
        refine LJ.yd rfl (Yd.xor rfl rfl) ?_
        refine LJ.yd rfl (Yd.asI rfl) ?_
        refine LJ.nil ?_
        refine CJ.seq ?_
        have z1 : (0 : Int) ≤ x * 131 + y * 1117 + p * 29 + p / n * 53 := by omega
        have z2 := xorI_nonneg z1 (by omega) (Int.ediv_nonneg z1 (by omega : (0 : Int) ≤ 64)) (by omega)
        refine CJ.region ?_
        refine LJ.yd rfl (Yd.mvI rfl) ?_
        refine LJ.yd rfl (Yd.mvI rfl) ?_
        refine LJ.yd rfl (Yd.rem rfl rfl (by first | exact z2 | omega) (by omega)) ?_
        refine LJ.yd rfl (Yd.asI rfl) ?_
        refine LJ.nil ?_
        refine CJ.ret ?_
        refine Fin.R [_] (Res.one (ResV.tmp (v := .int _ _) rfl)) ⟨_, rfl, ?_, ?_, rfl⟩ (Ent.refl _)
        · first | exact Int.le_refl 0 | exact Int.emod_nonneg _ (by omega)
        · first | exact .inr rfl | exact .inl (Int.emod_lt_of_pos _ (by omega))
/-- a literal list of numbers lies here -/
def LitAt (h : Hp) (b : Nat) (l : List Int) : Prop := ∀ (i : Nat) (x : Int), l[i]? = some x → h.cell ⟨b, 0 + i * 1, none⟩ = some (vI x)
theorem LitAt.of {A : Amb} {fr : List HProp} {k : Hp} {b : Nat} {T : TypeId} {l : List Int} (hk : Sts fr k) (dk : A.h.Dj k) (i : Nat) (hi : fr[i]? = some (Cel b T (l.map vI))) : LitAt (A.ext k).h b l := fun j x hj => by
  obtain ⟨m, hm, lm⟩ := hk.get hi
  refine Hp.cell_le (Amb.ext_own dk) (Hp.cell_le lm ?_)
  rw [show 0 + j * 1 = j by omega]
  exact Cel.cell hm (by rw [List.getElem?_map, hj]; rfl)
theorem one_ok {A : Amb} {rb n c b lc : Nat} {a : Option Addr} {p : Int} {l : List Int} (hc : RdCode A.h a n) (hl : LitAt A.h b l) (h0 : 0 < l.length) (hp : 0 ≤ p) (hp' : p ≤ 100000000) :
    Ctr Try.prog 57 #[.pointer (some ⟨rb, 0, none⟩), .slice (some ⟨b, 0, none⟩) l.length lc] A [Rd rb a n c p] (fun v fs => ∃ x, v = vI x ∧ x ∈ l ∧ fs = [Rd rb a n c (p + 1)]) := by
  refine Ctr.body (args := [_, _]) Try.func57 rfl Try.ntmps57 Try.results57 (by simp) ?_
  refine CJ.seq ?_
  refine CJ.region ?_
  refine LJ.yd rfl (Yd.asI rfl) ?_
  refine LJ.nil ?_
  refine CJ.seq ?_
  refine CJ.region ?_
  refine LJ.yd rfl (Yd.mvS rfl) ?_
  refine LJ.yd rfl (Yd.mvP rfl) ?_
  refine LJ.yd rfl (Yd.mvS rfl) ?_
  refine LJ.yd rfl (Yd.len rfl) ?_
  refine LJ.call (pickF _ []) (pickF _ [0]) rfl (perm_pickF _ [] [0] rfl) (fun k hk dk => pick_ok (hc.up) (by omega) (by omega)) ?_
  rintro _ _ ⟨x9, rfl, hx9, hy9, rfl⟩
  refine LJ.norm [_] rfl ?_
  refine LJ.yd rfl (Yd.indexAddr rfl rfl hx9 (by omega)) ?_
  have hlt : x9.toNat < l.length := by omega
  obtain ⟨y, hy⟩ : ∃ y, l[x9.toNat]? = some y := ⟨_, List.getElem?_eq_getElem hlt⟩
  refine LJ.yd rfl (Yd.load rfl (Rdc.amb (hl x9.toNat y hy))) ?_
  refine LJ.yd rfl (Yd.asI rfl) ?_
  refine LJ.nil ?_
  refine CJ.ret ?_
  exact Fin.R [_] (Res.one (ResV.tmp (v := .int _ _) rfl)) ⟨_, rfl, List.mem_of_getElem? hy, rfl⟩ (Ent.refl _)
/-- some of what is owned stays, some is told as one, the rest is dropped -/
theorem Ent.pickFold {A B : Amb} [AmbLe A B] {fs : List HProp} {G : HProp} (a b c : List Nat) (h : permF (a ++ (b ++ c)) fs = true) (f : ∀ m, Sts (pickF fs b) m → G m) : Ent B A fs (pickF fs a ++ [G]) := fun w s => by
  obtain ⟨ok, m, x, l, d⟩ := (s.perm (perm_pickF fs a (b ++ c) h)).weak (A := A)
  obtain ⟨h1, h2, y1, y2, dj, l1, l2⟩ := x.split
  rw [pickF_append] at y2
  obtain ⟨h3, h4, y3, y4, dj', l3, l4⟩ := y2.split
  refine ⟨ok, m, Sts.join (gs := [G]) (h2 := h3) y1 ⟨h3, fun _ => none, f _ y3, trivial, fun _ => .inr rfl, Hp.Le.refl _, Hp.none_le _⟩ (dj.mono (Hp.Le.refl _) l3) l1 (l3.trans l2), l, d⟩
theorem Ent.thn {A B : Amb} {fs gs hs : List HProp} (a : Ent B B fs gs) (b : Ent B A gs hs) : Ent B A fs hs := fun w s => b w (a w s)
/-- a code, which is a slice of bytes that can be read -/
structure Code (h : Hp) (a : Option Addr) (n c : Nat) : Prop where
  rd : RdCode h a n
  hn : n ≤ c
  ha : 0 < n → a = none → c = 0
  hs : 0 < n → ∀ q, a = some q → q.spot = none
theorem Code.up {A B : Amb} [AmbLe A B] {a : Option Addr} {n c : Nat} (r : Code A.h a n c) : Code B.h a n c := ⟨r.rd.up, r.hn, r.ha, r.hs⟩
end Go.Proofs.Ytlpjienaennmaaa
