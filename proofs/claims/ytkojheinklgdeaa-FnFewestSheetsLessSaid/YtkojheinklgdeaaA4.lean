/-
  Contracts: orders of indices by a comparison, falling orders.
-/
import Derived.Test.YtkojheinklgdeaaA3
namespace Go.Proofs.Ytkojheinklgdeaa
open Go
set_option maxRecDepth 20000
set_option maxHeartbeats 1000000

theorem copyInts_ok {A : Amb} {v : Value} {l : List Int} (hl : RdL encI 1 A.h v l) (hb : l.length ≤ 2000000) : Ctr Try.prog 80 #[v] A [] (RLP encI 3 1 l) := by
  obtain ⟨la, lc, rfl, hlb, hl⟩ := hl.un
  refine Ctr.body (args := [_]) Try.func80 rfl Try.ntmps80 Try.results80 (by simp) ?_
  refine CJ.seq ?_
  refine CJ.region ?_
  refine LJ.yd rfl (Yd.asS rfl) ?_
  refine LJ.nil ?_
  refine CJ.seq ?_
  refine CJ.region ?_
  refine LJ.op rfl (OpR.buildSlice (cs := []) rfl rfl) ?_
  rintro _ _ ⟨b1, rfl, rfl⟩
  refine LJ.yd rfl (Yd.mvS rfl) ?_
  refine LJ.imp1 0 rfl (fun _ h => Cel.lr (enc := encI) (k := 1) (m := 0) [] rfl rfl rfl rfl h) ?_
  refine LJ.norm [_] rfl ?_
  refine LJ.op rfl (OpR.apA (enc := encI) 0 rfl hl rfl (by first | rfl | omega | (simp; done) | (simp; omega) | (simp [upN_len]; omega) | (simp [idxBy_len]; omega) | (simp [marks_len]; omega) | (simp [upN_len]; done) | (simp [idxBy_len]; done) | (simp [marks_len]; done) | (simp at *; omega)) rfl (fun _ => rfl) (by first | rfl | omega | (simp; done) | (simp; omega) | (simp [upN_len]; omega) | (simp [idxBy_len]; omega) | (simp [marks_len]; omega) | (simp [upN_len]; done) | (simp [idxBy_len]; done) | (simp [marks_len]; done) | (simp at *; omega))) ?_
  rintro _ _ ⟨ra5, rc5, rfl, rfl⟩
  refine LJ.norm [_] rfl ?_
  refine LJ.yd rfl (Yd.asS rfl) ?_
  refine LJ.nil ?_
  refine CJ.ret ?_
  refine Fin.RL 0 (Res.one (ResV.tmp (v := .slice _ _ _) rfl)) rfl (by first | rfl | omega | (simp; done) | (simp; omega) | (simp [upN_len]; omega) | (simp [idxBy_len]; omega) | (simp [marks_len]; omega) | (simp [upN_len]; done) | (simp [idxBy_len]; done) | (simp [marks_len]; done) | (simp at *; omega)) ?_
  rfl
/-- the numbers less than n -/
def upN (n : Nat) : List Int := (List.range n).map fun (i : Nat) => (i : Int)
theorem upN_len (n : Nat) : (upN n).length = n := by simp [upN]
theorem upN_succ (n : Nat) : upN (n + 1) = upN n ++ [(n : Int)] := by simp [upN, List.range_succ]
theorem upN_mem {n : Nat} {x : Int} : x ∈ upN n ↔ 0 ≤ x ∧ x < n := by
  simp only [upN, List.mem_map, List.mem_range]
  exact ⟨fun ⟨i, h, e⟩ => by omega, fun h => ⟨x.toNat, by omega, by omega⟩⟩
theorem insAll_append (lt : Int → Int → Bool) : ∀ (a b p : List Int), insAll lt p (a ++ b) = insAll lt (insAll lt p a) b
  | [], _, _ => rfl
  | x :: a, b, p => insAll_append lt a b _
/-- the first n indices, ordered -/
def idxBy (lt : Int → Int → Bool) (n : Nat) : List Int := insAll lt [] (upN n)
theorem idxBy_succ (lt : Int → Int → Bool) (n : Nat) : idxBy lt (n + 1) = (ins lt n (idxBy lt n).reverse).reverse := by
  simp only [idxBy, upN_succ, insAll_append]; rfl
theorem idxBy_len (lt : Int → Int → Bool) (n : Nat) : (idxBy lt n).length = n := by simp [idxBy, insAll_length, upN_len]
theorem idxBy_mem {lt : Int → Int → Bool} {n : Nat} {x : Int} : x ∈ idxBy lt n ↔ 0 ≤ x ∧ x < n := by simp [idxBy, insAll_mem, upN_mem]
theorem upN_set {n k : Nat} (h : k < n) : (upN k ++ List.replicate (n - k) (0 : Int)).set k k = upN (k + 1) ++ List.replicate (n - (k + 1)) 0 := by
  obtain ⟨m, rfl⟩ : ∃ m, n = k + 1 + m := ⟨n - k - 1, by omega⟩
  rw [show k + 1 + m - k = m + 1 by omega, show k + 1 + m - (k + 1) = m by omega, upN_succ, List.set_append_right _ _ (by rw [upN_len]; omega), upN_len, Nat.sub_self, List.replicate_succ, List.set_cons_zero]
  simp
theorem sortS_ok {A : Amb} {F : FuncId} {caps : List Value} {D : Int → Prop} {lt : Int → Int → Bool} {g c : Nat} {l : List Int} {m : Nat} [TyFn Try.prog F] (hc : Cmp A F caps D lt) (hl : ∀ x ∈ l, D x) (h1 : l.length ≤ 20) (hm : m = l.length) :
    Ctr Try.prog 84 #[.slice (some ⟨g, 0, none⟩) m c, .func (.func F) #[] caps.toArray] A [LR encI 3 1 (some ⟨g, 0, none⟩) c l] (fun v gs => v = .tuple #[] ∧ gs = [LR encI 3 1 (some ⟨g, 0, none⟩) c (insAll lt [] l)]) := by
  subst hm
  refine Ctr.body (args := [_, _]) Try.func84 rfl Try.ntmps84 Try.results84 (by simp) ?_
  refine CJ.region ?_
  refine LJ.yd rfl (Yd.mvS rfl) ?_
  refine LJ.yd rfl (Yd.mvS rfl) ?_
  refine LJ.yd rfl (Yd.len rfl) ?_
  refine LJ.yd rfl (Yd.mvF rfl) ?_
  refine LJ.call (pickF _ []) (pickF _ [0]) rfl (perm_pickF _ [] [0] rfl) (fun k hk dk => stable_ok hc.up hl h1) ?_
  rintro _ _ ⟨rfl, rfl⟩
  refine LJ.norm [_] rfl ?_
  refine LJ.nil ?_
  refine Fin.ofRet ?_
  exact Fin.R [_] Res.none ⟨rfl, rfl⟩ (Ent.refl _)
theorem indicesBy_ok {A : Amb} {F : FuncId} {caps : List Value} {lt : Int → Int → Bool} {n : Nat} [TyFn Try.prog F] (hc : Cmp A F caps (fun x => 0 ≤ x ∧ x < n) lt) (h1 : n ≤ 20) :
    Ctr Try.prog 63 #[vI n, .func (.func F) #[] caps.toArray] A [] (RLP encI 3 1 (idxBy lt n)) := by
  refine Ctr.body (args := [_, _]) Try.func63 rfl Try.ntmps63 Try.results63 (by simp) ?_
  refine CJ.seq ?_
  refine CJ.region ?_
  refine LJ.yd rfl (Yd.asS rfl) ?_
  refine LJ.nil ?_
  refine CJ.seq ?_
  refine CJ.region ?_
  refine LJ.yd rfl (Yd.mvI rfl) ?_
  refine LJ.op rfl (OpR.mk (enc := encI) (0 : Int) (m := n) rfl rfl rfl (by first | rfl | omega | (simp; done) | (simp; omega) | (simp [upN_len]; omega) | (simp [idxBy_len]; omega) | (simp [marks_len]; omega) | (simp [upN_len]; done) | (simp [idxBy_len]; done) | (simp [marks_len]; done) | (simp at *; omega))) ?_
  rintro _ _ ⟨g8, rfl, rfl⟩
  refine LJ.norm [_] rfl ?_
  refine LJ.yd rfl (Yd.asS rfl) ?_
  refine LJ.nil ?_
  refine CJ.seq ?_
  refine CJ.seq ?_
  refine CJ.region ?_
  refine LJ.yd rfl (Yd.mvS rfl) ?_
  refine LJ.yd rfl (Yd.len rfl) ?_
  refine LJ.yd rfl (Yd.mvI rfl) ?_
  refine LJ.nil ?_
  refine CJ.block ?_
  refine CJ.loopF [1, 4, 5, 10] Nat (fun k => k ≤ n) (fun k => [(11, vI k)]) (fun k => [LR encI 3 1 (some ⟨g8, 0, none⟩) n (upN k ++ List.replicate (n - k) 0)]) (fun k => n - k) (0) [] [] [0] rfl rfl rfl ?_ ⟨rfl, trivial⟩ ?_
  · exact by omega
  · rintro k σ hk1
    refine CJ.norm [_] rfl ?_
    refine CJ.seq ?_
    refine CJ.region ?_
    refine LJ.splitD rfl (Yd.lss rfl rfl) (fun h12 => ?_) (fun h12 => ?_)
    · refine LJ.nil ?_
      refine CJ.seq ?_
      refine CJ.condT rfl ?_
      refine CJ.skip ?_
      refine CJ.seq ?_
      refine CJ.block ?_
      refine CJ.seq ?_
      refine CJ.region ?_
      refine LJ.yd rfl (Yd.mvI rfl) ?_
      refine LJ.yd rfl (Yd.asI rfl) ?_
      refine LJ.nil ?_
      refine CJ.region ?_
      refine LJ.yd rfl (Yd.mvS rfl) ?_
      refine LJ.yd rfl (Yd.mvI rfl) ?_
      refine LJ.yd rfl (Yd.mvI rfl) ?_
      refine LJ.idxR 0 rfl rfl rfl rfl (by omega) (by omega) (by simp [upN_len]; omega) (fun ib17 ia17 => ?_)
      refine LJ.op rfl (OpR.st1 (enc := encI) (e1 := fun u => vI u) 0 (fun _ => rfl) (fun _ => rfl) (fun _ => rfl) rfl ia17 rfl rfl rfl (by simp [upN_len]; omega)) ?_
      rintro _ _ ⟨rfl, rfl⟩
      refine LJ.norm [_] rfl ?_
      refine LJ.nil ?_
      refine CJ.norm [LR encI 3 1 (some ⟨g8, 0, none⟩) n (upN (k + 1) ++ List.replicate (n - (k + 1)) 0)] (by rw [← upN_set (by omega)]; rfl) ?_
      refine CJ.region ?_
      refine LJ.yd rfl (Yd.add rfl rfl (by unfold I64; omega)) ?_
      refine LJ.yd rfl (Yd.mvI rfl) ?_
      refine LJ.nil ?_
      refine ⟨(k + 1), ?_, ⟨rfl, rfl, rfl, rfl, trivial⟩, ⟨rfl, trivial⟩, Ent.refl _, ?_⟩
      · omega
      · first | omega | (dsimp only; omega) | (simp only []; omega)
    · refine LJ.nil ?_
      refine CJ.seq ?_
      refine CJ.condF rfl ?_
      refine CJ.exit ?_
      refine CJ.seq ?_
      have e2 : upN k ++ List.replicate (n - k) 0 = upN n := by
        obtain rfl : k = n := by omega
        simp
      rw [e2]
      refine CJ.region ?_
      refine LJ.yd rfl (Yd.mvS rfl) ?_
      refine LJ.yd rfl (Yd.mvF rfl) ?_
      refine LJ.call (pickF _ []) (pickF _ [0]) rfl (perm_pickF _ [] [0] rfl) (fun k hk dk => sortS_ok hc.up (fun x hx => upN_mem.1 hx) (by rw [upN_len]; exact h1) (upN_len n).symm) ?_
      rintro _ _ ⟨rfl, rfl⟩
      refine LJ.norm [_] rfl ?_
      refine LJ.nil ?_
      refine CJ.seq ?_
      refine CJ.region ?_
      refine LJ.yd rfl (Yd.mvS rfl) ?_
      refine LJ.yd rfl (Yd.asS rfl) ?_
      refine LJ.nil ?_
      refine CJ.ret ?_
      refine Fin.RL 0 (Res.one (ResV.tmp (v := .slice _ _ _) rfl)) rfl (idxBy_len lt n).symm ?_
      rfl
abbrev gt (l : List Int) (x : Int) : Int := l.getD x.toNat 0
theorem gtC {l : List Int} {x u : Int} (h : l[x.toNat]? = some u) : gt l x = u := by simp [gt, List.getD_eq_getElem?_getD, h]
theorem gtC' {l : List Int} {k : Nat} {u : Int} (h : l[k]? = some u) : gt l k = u := by simp [gt, List.getD_eq_getElem?_getD, h]
/-- a number is greater than another one of a list -/
def ltF (l : List Int) (x y : Int) : Bool := decide (gt l y < gt l x)
theorem fallCmp {A : Amb} {b lc : Nat} {la : Option Addr} {l : List Int} (hcell : A.h.cell ⟨b, 0, none⟩ = some (.slice la l.length lc)) (hl : RdL encI 1 A.h (.slice la l.length lc) l) (hb : ∀ u ∈ l, 0 ≤ u ∧ u ≤ 1000000) :
    Cmp A 85 [.pointer (some ⟨b, 0, none⟩)] (fun x => 0 ≤ x ∧ x < l.length) (ltF l) := by
  intro B hB x y hx hy
  replace hl : RdL encI 1 B.h (.slice la l.length lc) l := hl.up
  replace hcell := Hp.cell_le hB.le hcell
  refine Ctr.body (args := [_, _, _]) Try.func85 rfl Try.ntmps85 Try.results85 (by simp) ?_
  refine CJ.seq ?_
  refine CJ.region ?_
  refine LJ.yd rfl (Yd.asI rfl) ?_
  refine LJ.nil ?_
  refine CJ.seq ?_
  refine CJ.regionD [] [] (by kernel_rfl) rfl ?_
  refine DJ.norm [] [] rfl rfl ?_
  refine DJ.yd 0 rfl (by kernel_rfl) (by kernel_rfl) (by kernel_rfl) rfl rfl (Yd.load rfl (Rdc.amb hcell)) ?_
  refine DJ.yd 1 rfl (by kernel_rfl) (by kernel_rfl) (by kernel_rfl) rfl rfl (Yd.mvI rfl) ?_
  refine DJ.idxA 2 rfl (by kernel_rfl) (by kernel_rfl) (by kernel_rfl) rfl rfl hl rfl rfl (by omega) (by first | rfl | omega | (simp; done) | (simp; omega) | (simp [upN_len]; omega) | (simp [idxBy_len]; omega) | (simp [marks_len]; omega) | (simp [upN_len]; done) | (simp [idxBy_len]; done) | (simp [marks_len]; done) | (simp at *; omega)) (fun ib8 io8 ia8 ir8 => ?_)
  refine DJ.ldA 3 rfl (by kernel_rfl) (by kernel_rfl) (by kernel_rfl) rfl rfl 0 (fun u => vI u) (fun _ => rfl) ir8 rfl rfl (by first | rfl | omega | (simp; done) | (simp; omega) | (simp [upN_len]; omega) | (simp [idxBy_len]; omega) | (simp [marks_len]; omega) | (simp [upN_len]; done) | (simp [idxBy_len]; done) | (simp [marks_len]; done) | (simp at *; omega)) (fun u9 hu9 => ?_)
  try simp only [Int.toNat_natCast] at hu9
  have hf9 := hb u9 (List.mem_of_getElem? hu9)
  refine DJ.yd 4 rfl (by kernel_rfl) (by kernel_rfl) (by kernel_rfl) rfl rfl (Yd.load rfl (Rdc.amb hcell)) ?_
  refine DJ.yd 5 rfl (by kernel_rfl) (by kernel_rfl) (by kernel_rfl) rfl rfl (Yd.mvI rfl) ?_
  refine DJ.idxA 6 rfl (by kernel_rfl) (by kernel_rfl) (by kernel_rfl) rfl rfl hl rfl rfl (by omega) (by first | rfl | omega | (simp; done) | (simp; omega) | (simp [upN_len]; omega) | (simp [idxBy_len]; omega) | (simp [marks_len]; omega) | (simp [upN_len]; done) | (simp [idxBy_len]; done) | (simp [marks_len]; done) | (simp at *; omega)) (fun ib12 io12 ia12 ir12 => ?_)
  refine DJ.ldA 7 rfl (by kernel_rfl) (by kernel_rfl) (by kernel_rfl) rfl rfl 0 (fun u => vI u) (fun _ => rfl) ir12 rfl rfl (by first | rfl | omega | (simp; done) | (simp; omega) | (simp [upN_len]; omega) | (simp [idxBy_len]; omega) | (simp [marks_len]; omega) | (simp [upN_len]; done) | (simp [idxBy_len]; done) | (simp [marks_len]; done) | (simp at *; omega)) (fun u13 hu13 => ?_)
  try simp only [Int.toNat_natCast] at hu13
  have hf13 := hb u13 (List.mem_of_getElem? hu13)
  refine DJ.yd 8 rfl (by kernel_rfl) (by kernel_rfl) (by kernel_rfl) rfl rfl (Yd.sub rfl rfl (by unfold I64; omega)) ?_
  refine DJ.yd 9 rfl (by kernel_rfl) (by kernel_rfl) (by kernel_rfl) rfl rfl (Yd.asI rfl) ?_
  refine DJ.done (by kernel_rfl) ?_
  refine CJ.ret ?_
  exact Fin.R [] (Res.one (ResV.tmp (v := .int _ _) rfl)) ⟨_, rfl, rfl, by rw [ltF, gtC hu9, gtC hu13, decide_eq_true_iff]; omega⟩ (Ent.refl _)
theorem fallingI_ok {A : Amb} {v : Value} {l : List Int} (hl : RdL encI 1 A.h v l) (hb : ∀ u ∈ l, 0 ≤ u ∧ u ≤ 1000000) (h1 : l.length ≤ 20) : Ctr Try.prog 65 #[v] A [] (RLP encI 3 1 (idxBy (ltF l) l.length)) := by
  obtain ⟨la, lc, rfl, hlb, hl⟩ := hl.un
  refine Ctr.body (args := [_]) Try.func65 rfl Try.ntmps65 Try.results65 (by simp) ?_
  refine CJ.seq ?_
  refine CJ.region ?_
  refine LJ.box1 (v := .slice _ _ _) rfl rfl rfl (fun b1 => ?_)
  refine LJ.yd rfl (Yd.asS rfl) ?_
  refine LJ.nil ?_
  refine CJ.seq ?_
  refine CJ.region ?_
  refine LJ.yd rfl (Yd.loadC 0 rfl rfl rfl) ?_
  refine LJ.yd rfl (Yd.len rfl) ?_
  refine LJ.yd rfl (Yd.makeFunc rfl) ?_
  refine LJ.call0 rfl (fun k hk dk => indicesBy_ok (fallCmp (Sts.cel hk dk 0 rfl rfl) hl.up hb) h1) ?_
  rintro _ _ ⟨ra6, rc6, rfl, rfl⟩
  refine LJ.norm [_, _] rfl ?_
  refine LJ.yd rfl (Yd.asS rfl) ?_
  refine LJ.nil ?_
  refine CJ.ret ?_
  refine Fin.RL 1 (Res.one (ResV.tmp (v := .slice _ _ _) rfl)) rfl (by first | rfl | omega | (simp; done) | (simp; omega) | (simp [upN_len]; omega) | (simp [idxBy_len]; omega) | (simp [marks_len]; omega) | (simp [upN_len]; done) | (simp [idxBy_len]; done) | (simp [marks_len]; done) | (simp at *; omega)) ?_
  rfl
theorem fallingS_ok {A : Amb} {v : Value} {l : List Int} (hl : RdL encI 1 A.h v l) (h1 : l.length ≤ 1000) : Ctr Try.prog 53 #[v] A [] (RLP encI 3 1 (idxBy (ltF l) l.length)) := by
  obtain ⟨la, lc, rfl, hlb, hl⟩ := hl.un
  refine Ctr.body (args := [_]) Try.func53 rfl Try.ntmps53 Try.results53 (by simp) ?_
  refine CJ.seq ?_
  refine CJ.region ?_
  refine LJ.yd rfl (Yd.asS rfl) ?_
  refine LJ.nil ?_
  refine CJ.seq ?_
  refine CJ.region ?_
  refine LJ.op rfl (OpR.buildSlice (cs := []) rfl rfl) ?_
  rintro _ _ ⟨b1, rfl, rfl⟩
  refine LJ.yd rfl (Yd.asS rfl) ?_
  refine LJ.nil ?_
  refine CJ.seq ?_
  refine CJ.seq ?_
  refine CJ.region ?_
  refine LJ.yd rfl (Yd.asI rfl) ?_
  refine LJ.nil ?_
  refine CJ.block ?_
  refine CJ.imp1 0 rfl (fun _ h => Cel.lr (enc := encI) (k := 1) (m := 0) [] rfl rfl rfl rfl h) ?_
  refine CJ.norm [_] rfl ?_
  refine CJ.loopF [0, 2] (Nat × List Int × Option Addr × Nat × Nat) (fun ⟨k, p, pA, pN, pC⟩ => (pN = p.length) ∧ k ≤ l.length ∧ p = idxBy (ltF l) k) (fun ⟨k, p, pA, pN, pC⟩ => [(4, vI k), (3, .slice pA pN pC)]) (fun ⟨k, p, pA, pN, pC⟩ => [LR encI 3 1 pA pC p]) (fun ⟨k, p, pA, pN, pC⟩ => l.length - k) (0, [], _, _, _) [] [] [0] rfl rfl rfl ?_ ⟨rfl, rfl, trivial⟩ ?_
  · exact ⟨(by first | rfl | omega | (simp; done) | (simp; omega) | (simp [upN_len]; omega) | (simp [idxBy_len]; omega) | (simp [marks_len]; omega) | (simp [upN_len]; done) | (simp [idxBy_len]; done) | (simp [marks_len]; done) | (simp at *; omega)), ⟨by omega, by rfl⟩⟩
  · rintro ⟨k, p, pA, pN, pC⟩ σ ⟨hlNp, ⟨hk1, hp⟩⟩
    subst hlNp
    refine CJ.norm [_] rfl ?_
    have hpl : p.length = k := by rw [hp, idxBy_len]
    have hpm : ∀ z ∈ p, 0 ≤ z ∧ z < k := fun z hz => by rw [hp] at hz; exact idxBy_mem.1 hz
    refine CJ.seq ?_
    refine CJ.seq ?_
    refine CJ.region ?_
    refine LJ.yd rfl (Yd.mvI rfl) ?_
    refine LJ.yd rfl (Yd.mvS rfl) ?_
    refine LJ.yd rfl (Yd.len rfl) ?_
    refine LJ.splitD rfl (Yd.lss rfl rfl) (fun h11 => ?_) (fun h11 => ?_)
    · refine LJ.nil ?_
      refine CJ.condT rfl ?_
      refine CJ.skip ?_
      refine CJ.seq ?_
      refine CJ.block ?_
      refine CJ.seq ?_
      refine CJ.region ?_
      refine LJ.yd rfl (Yd.mvS rfl) ?_
      refine LJ.yd rfl (Yd.len rfl) ?_
      refine LJ.yd rfl (Yd.asI rfl) ?_
      refine LJ.nil ?_
      refine CJ.seq ?_
      refine CJ.block ?_
      refine CJ.loopK [0, 2, 3, 4, 8, 9, 10, 11, 14, 15] Int (fun j => 0 ≤ j ∧ j ≤ k ∧ (ins (ltF l) k (p.take j.toNat).reverse).reverse ++ p.drop j.toNat = (ins (ltF l) k p.reverse).reverse) (fun j => [(5, vI j)]) (fun j => j.toNat) (_) ?_ ⟨rfl, trivial⟩ ?_
      · exact ⟨by omega, by omega, by rw [Int.toNat_natCast, ← hpl]; exact ins_full⟩
      · rintro j σ ⟨hj0, hj1, hj2⟩
        refine CJ.seq ?_
        refine CJ.seq ?_
        refine CJ.regionD [0] [] (by kernel_rfl) rfl ?_
        refine DJ.norm [_] [] rfl rfl ?_
        refine DJ.yd 0 rfl (by kernel_rfl) (by kernel_rfl) (by kernel_rfl) rfl rfl (Yd.mvI rfl) ?_
        refine DJ.splitD 1 rfl (by kernel_rfl) (by kernel_rfl) (by kernel_rfl) rfl rfl (Yd.gtr rfl rfl) (fun h17 => ?_) (fun h17 => ?_)
        · refine DJ.yd 2 rfl (by kernel_rfl) (by kernel_rfl) (by kernel_rfl) rfl rfl (Yd.mvB rfl) ?_
          refine DJ.yd 3 rfl (by kernel_rfl) (by kernel_rfl) (by kernel_rfl) rfl rfl (Yd.mvS rfl) ?_
          refine DJ.yd 4 rfl (by kernel_rfl) (by kernel_rfl) (by kernel_rfl) rfl rfl (Yd.mvS rfl) ?_
          refine DJ.yd 5 rfl (by kernel_rfl) (by kernel_rfl) (by kernel_rfl) rfl rfl (Yd.mvI rfl) ?_
          refine DJ.yd 6 rfl (by kernel_rfl) (by kernel_rfl) (by kernel_rfl) rfl rfl (Yd.sub rfl rfl (by unfold I64; omega)) ?_
          refine DJ.idxF 0 rfl 7 rfl (by kernel_rfl) (by kernel_rfl) (by kernel_rfl) rfl rfl rfl rfl (by omega) (by first | rfl | omega | (simp; done) | (simp; omega) | (simp [upN_len]; omega) | (simp [idxBy_len]; omega) | (simp [marks_len]; omega) | (simp [upN_len]; done) | (simp [idxBy_len]; done) | (simp [marks_len]; done) | (simp at *; omega)) (by first | rfl | omega | (simp; done) | (simp; omega) | (simp [upN_len]; omega) | (simp [idxBy_len]; omega) | (simp [marks_len]; omega) | (simp [upN_len]; done) | (simp [idxBy_len]; done) | (simp [marks_len]; done) | (simp at *; omega)) (fun ib23 ia23 => ?_)
          refine DJ.ldF 8 rfl (by kernel_rfl) (by kernel_rfl) (by kernel_rfl) rfl rfl 0 0 (fun u => vI u) (fun _ => rfl) rfl ia23 rfl rfl (by first | rfl | omega | (simp; done) | (simp; omega) | (simp [upN_len]; omega) | (simp [idxBy_len]; omega) | (simp [marks_len]; omega) | (simp [upN_len]; done) | (simp [idxBy_len]; done) | (simp [marks_len]; done) | (simp at *; omega)) (fun u24 hu24 => ?_)
          try simp only [Int.toNat_natCast] at hu24
          have hf24 := hpm u24 (List.mem_of_getElem? hu24)
          refine DJ.idxA 9 rfl (by kernel_rfl) (by kernel_rfl) (by kernel_rfl) rfl rfl hl rfl rfl (by omega) (by first | rfl | omega | (simp; done) | (simp; omega) | (simp [upN_len]; omega) | (simp [idxBy_len]; omega) | (simp [marks_len]; omega) | (simp [upN_len]; done) | (simp [idxBy_len]; done) | (simp [marks_len]; done) | (simp at *; omega)) (fun ib25 io25 ia25 ir25 => ?_)
          refine DJ.ldA 10 rfl (by kernel_rfl) (by kernel_rfl) (by kernel_rfl) rfl rfl 0 (fun u => vI u) (fun _ => rfl) ir25 rfl rfl (by first | rfl | omega | (simp; done) | (simp; omega) | (simp [upN_len]; omega) | (simp [idxBy_len]; omega) | (simp [marks_len]; omega) | (simp [upN_len]; done) | (simp [idxBy_len]; done) | (simp [marks_len]; done) | (simp at *; omega)) (fun u26 hu26 => ?_)
          try simp only [Int.toNat_natCast] at hu26
          refine DJ.yd 11 rfl (by kernel_rfl) (by kernel_rfl) (by kernel_rfl) rfl rfl (Yd.mvS rfl) ?_
          refine DJ.yd 12 rfl (by kernel_rfl) (by kernel_rfl) (by kernel_rfl) rfl rfl (Yd.mvI rfl) ?_
          refine DJ.idxA 13 rfl (by kernel_rfl) (by kernel_rfl) (by kernel_rfl) rfl rfl hl rfl rfl (by omega) (by first | rfl | omega | (simp; done) | (simp; omega) | (simp [upN_len]; omega) | (simp [idxBy_len]; omega) | (simp [marks_len]; omega) | (simp [upN_len]; done) | (simp [idxBy_len]; done) | (simp [marks_len]; done) | (simp at *; omega)) (fun ib29 io29 ia29 ir29 => ?_)
          refine DJ.ldA 14 rfl (by kernel_rfl) (by kernel_rfl) (by kernel_rfl) rfl rfl 0 (fun u => vI u) (fun _ => rfl) ir29 rfl rfl (by first | rfl | omega | (simp; done) | (simp; omega) | (simp [upN_len]; omega) | (simp [idxBy_len]; omega) | (simp [marks_len]; omega) | (simp [upN_len]; done) | (simp [idxBy_len]; done) | (simp [marks_len]; done) | (simp at *; omega)) (fun u30 hu30 => ?_)
          try simp only [Int.toNat_natCast] at hu30
          refine DJ.splitD 15 rfl (by kernel_rfl) (by kernel_rfl) (by kernel_rfl) rfl rfl (Yd.lss rfl rfl) (fun h31 => ?_) (fun h31 => ?_)
          · refine DJ.yd 16 rfl (by kernel_rfl) (by kernel_rfl) (by kernel_rfl) rfl rfl (Yd.pickTB rfl rfl) ?_
            refine DJ.done (by kernel_rfl) ?_
            refine CJ.condT rfl ?_
            refine CJ.skip ?_
            refine CJ.block ?_
            refine CJ.region ?_
            refine LJ.yd rfl (Yd.mvI rfl) ?_
            refine LJ.yd rfl (Yd.sub rfl rfl (by unfold I64; omega)) ?_
            refine LJ.yd rfl (Yd.asI rfl) ?_
            refine LJ.nil ?_
            refine ⟨_, ?_, ⟨rfl, rfl, rfl, rfl, rfl, rfl, rfl, rfl, rfl, rfl, trivial⟩, ⟨rfl, trivial⟩, Ent.refl _, ?_⟩
            · have e31 : (j - 1).toNat = j.toNat - 1 := by omega
              rw [e31] at hu24 ⊢
              have hlt : ltF l k u24 = true := by rw [ltF, gtC hu26, gtC' hu30]; simpa using h31
              exact ⟨by omega, by omega, (by rw [← hj2]; exact (ins_step (by omega) hu24 hlt).symm)⟩
            · first | omega | (dsimp only; omega) | (simp only []; omega)
          · refine DJ.yd 16 rfl (by kernel_rfl) (by kernel_rfl) (by kernel_rfl) rfl rfl (Yd.pickTB rfl rfl) ?_
            refine DJ.done (by kernel_rfl) ?_
            refine CJ.condF rfl ?_
            refine CJ.exit ?_
            refine CJ.seq ?_
            have e2 : p.take j.toNat ++ (k : Int) :: p.drop j.toNat = idxBy (ltF l) (k + 1) := by
              rw [idxBy_succ, ← hp, ← hj2]
              first
                | (have e3 : j.toNat = 0 := by omega
                   rw [e3]; exact ins_zero.symm)
                | (have hlt : ¬ ltF l k u24 = true := by rw [ltF, gtC hu26, gtC' hu30]; simpa using h31
                   have e31 : (j - 1).toNat = j.toNat - 1 := by omega
                   rw [e31] at hu24
                   exact (ins_stop (by omega) hu24 hlt).symm)
            refine CJ.region ?_
            refine LJ.yd rfl (Yd.mvS rfl) ?_
            refine LJ.yd rfl (Yd.mvI rfl) ?_
            refine LJ.slLR 0 rfl rfl rfl rfl (by omega) (by first | rfl | omega | (simp; done) | (simp; omega) | (simp [upN_len]; omega) | (simp [idxBy_len]; omega) | (simp [marks_len]; omega) | (simp [upN_len]; done) | (simp [idxBy_len]; done) | (simp [marks_len]; done) | (simp at *; omega)) (by first | rfl | omega | (simp; done) | (simp; omega) | (simp [upN_len]; omega) | (simp [idxBy_len]; omega) | (simp [marks_len]; omega) | (simp [upN_len]; done) | (simp [idxBy_len]; done) | (simp [marks_len]; done) | (simp at *; omega)) (fun sa37 sm37 sc37 hsm37 hs37 => ?_)
            refine LJ.call0 rfl (fun k hk dk => copyInts_ok (hs37 _ (Sts.lr hk dk 0 (by first | rfl | omega | (simp; done) | (simp; omega) | (simp [upN_len]; omega) | (simp [idxBy_len]; omega) | (simp [marks_len]; omega) | (simp [upN_len]; done) | (simp [idxBy_len]; done) | (simp [marks_len]; done) | (simp at *; omega)) rfl)) (by simp; omega)) ?_
            rintro _ _ ⟨ra38, rc38, rfl, rfl⟩
            refine LJ.norm [_, _] rfl ?_
            refine LJ.yd rfl (Yd.asS rfl) ?_
            refine LJ.nil ?_
            refine CJ.region ?_
            refine LJ.yd rfl (Yd.mvS rfl) ?_
            refine LJ.yd rfl (Yd.mvI rfl) ?_
            refine LJ.slHR 0 rfl rfl rfl rfl (by omega) (by first | rfl | omega | (simp; done) | (simp; omega) | (simp [upN_len]; omega) | (simp [idxBy_len]; omega) | (simp [marks_len]; omega) | (simp [upN_len]; done) | (simp [idxBy_len]; done) | (simp [marks_len]; done) | (simp at *; omega)) (fun sm41 hsm41 hs41 => ?_)
            refine LJ.yd rfl (Yd.mvI rfl) ?_
            refine LJ.op rfl (OpR.buildSlice (cs := [_]) rfl rfl) ?_
            rintro _ _ ⟨b3, rfl, rfl⟩
            refine LJ.imp1 0 rfl (fun _ r => Row.shorten sm41 (by first | rfl | omega | (simp; done) | (simp; omega) | (simp [upN_len]; omega) | (simp [idxBy_len]; omega) | (simp [marks_len]; omega) | (simp [upN_len]; done) | (simp [idxBy_len]; done) | (simp [marks_len]; done) | (simp at *; omega)) r) ?_
            refine LJ.norm [_, _, _] rfl ?_
            refine LJ.op rfl (OpR.apT (enc := encI) [_] 0 2 rfl rfl rfl (by first | rfl | omega | (simp; done) | (simp; omega) | (simp [upN_len]; omega) | (simp [idxBy_len]; omega) | (simp [marks_len]; omega) | (simp [upN_len]; done) | (simp [idxBy_len]; done) | (simp [marks_len]; done) | (simp at *; omega)) rfl rfl rfl rfl rfl (by first | rfl | omega | (simp; done) | (simp; omega) | (simp [upN_len]; omega) | (simp [idxBy_len]; omega) | (simp [marks_len]; omega) | (simp [upN_len]; done) | (simp [idxBy_len]; done) | (simp [marks_len]; done) | (simp at *; omega))) ?_
            rintro _ _ ⟨ra44, rc44, rfl, rfl⟩
            refine LJ.norm [_, _, _] rfl ?_
            refine LJ.yd rfl (Yd.mvS rfl) ?_
            refine LJ.op rfl (OpR.apR (enc := encI) 0 1 rfl rfl rfl (by first | rfl | omega | (simp; done) | (simp; omega) | (simp [upN_len]; omega) | (simp [idxBy_len]; omega) | (simp [marks_len]; omega) | (simp [upN_len]; done) | (simp [idxBy_len]; done) | (simp [marks_len]; done) | (simp at *; omega)) rfl (by first | rfl | omega | (simp; done) | (simp; omega) | (simp [upN_len]; omega) | (simp [idxBy_len]; omega) | (simp [marks_len]; omega) | (simp [upN_len]; done) | (simp [idxBy_len]; done) | (simp [marks_len]; done) | (simp at *; omega)) (fun _ => rfl) (by first | rfl | omega | (simp; done) | (simp; omega) | (simp [upN_len]; omega) | (simp [idxBy_len]; omega) | (simp [marks_len]; omega) | (simp [upN_len]; done) | (simp [idxBy_len]; done) | (simp [marks_len]; done) | (simp at *; omega))) ?_
            rintro _ _ ⟨ra46, rc46, rfl, rfl⟩
            refine LJ.norm [_, _, _] rfl ?_
            refine LJ.yd rfl (Yd.asS rfl) ?_
            refine LJ.nil ?_
            refine CJ.region ?_
            refine LJ.yd rfl (Yd.mvI rfl) ?_
            refine LJ.yd rfl (Yd.add rfl rfl (by unfold I64; omega)) ?_
            refine LJ.yd rfl (Yd.asI rfl) ?_
            refine LJ.nil ?_
            refine ⟨(k + 1, _, _, _, _), ?_, ⟨rfl, rfl, trivial⟩, ⟨rfl, rfl, trivial⟩, Ent.pick [0] [1, 2] rfl, ?_⟩
            · refine ⟨(by first | rfl | omega | (simp; done) | (simp; omega) | (simp [upN_len]; omega) | (simp [idxBy_len]; omega) | (simp [marks_len]; omega) | (simp [upN_len]; done) | (simp [idxBy_len]; done) | (simp [marks_len]; done) | (simp at *; omega)), ?_⟩
              refine ⟨by omega, ?_⟩
              rw [hsm41, ← e2]; simp
            · first | omega | (dsimp only; omega) | (simp only []; omega)
        · refine DJ.yd 2 rfl (by kernel_rfl) (by kernel_rfl) (by kernel_rfl) rfl rfl (Yd.mvB rfl) ?_
          refine DJ.skip 3 rfl (by kernel_rfl) (by kernel_rfl) (by kernel_rfl) rfl rfl ?_
          refine DJ.skip 4 rfl (by kernel_rfl) (by kernel_rfl) (by kernel_rfl) rfl rfl ?_
          refine DJ.skip 5 rfl (by kernel_rfl) (by kernel_rfl) (by kernel_rfl) rfl rfl ?_
          refine DJ.skip 6 rfl (by kernel_rfl) (by kernel_rfl) (by kernel_rfl) rfl rfl ?_
          refine DJ.skip 7 rfl (by kernel_rfl) (by kernel_rfl) (by kernel_rfl) rfl rfl ?_
          refine DJ.skip 8 rfl (by kernel_rfl) (by kernel_rfl) (by kernel_rfl) rfl rfl ?_
          refine DJ.skip 9 rfl (by kernel_rfl) (by kernel_rfl) (by kernel_rfl) rfl rfl ?_
          refine DJ.skip 10 rfl (by kernel_rfl) (by kernel_rfl) (by kernel_rfl) rfl rfl ?_
          refine DJ.skip 11 rfl (by kernel_rfl) (by kernel_rfl) (by kernel_rfl) rfl rfl ?_
          refine DJ.skip 12 rfl (by kernel_rfl) (by kernel_rfl) (by kernel_rfl) rfl rfl ?_
          refine DJ.skip 13 rfl (by kernel_rfl) (by kernel_rfl) (by kernel_rfl) rfl rfl ?_
          refine DJ.skip 14 rfl (by kernel_rfl) (by kernel_rfl) (by kernel_rfl) rfl rfl ?_
          refine DJ.skip 15 rfl (by kernel_rfl) (by kernel_rfl) (by kernel_rfl) rfl rfl ?_
          refine DJ.yd 16 rfl (by kernel_rfl) (by kernel_rfl) (by kernel_rfl) rfl rfl (Yd.pickFB rfl rfl) ?_
          refine DJ.done (by kernel_rfl) ?_
          refine CJ.condF rfl ?_
          refine CJ.exit ?_
          refine CJ.seq ?_
          have e2 : p.take j.toNat ++ (k : Int) :: p.drop j.toNat = idxBy (ltF l) (k + 1) := by
            rw [idxBy_succ, ← hp, ← hj2]
            first
              | (have e3 : j.toNat = 0 := by omega
                 rw [e3]; exact ins_zero.symm)
              | (have hlt : ¬ ltF l k u24 = true := by rw [ltF, gtC hu26, gtC' hu30]; simpa using h31
                 have e31 : (j - 1).toNat = j.toNat - 1 := by omega
                 rw [e31] at hu24
                 exact (ins_stop (by omega) hu24 hlt).symm)
          refine CJ.region ?_
          refine LJ.yd rfl (Yd.mvS rfl) ?_
          refine LJ.yd rfl (Yd.mvI rfl) ?_
          refine LJ.slLR 0 rfl rfl rfl rfl (by omega) (by first | rfl | omega | (simp; done) | (simp; omega) | (simp [upN_len]; omega) | (simp [idxBy_len]; omega) | (simp [marks_len]; omega) | (simp [upN_len]; done) | (simp [idxBy_len]; done) | (simp [marks_len]; done) | (simp at *; omega)) (by first | rfl | omega | (simp; done) | (simp; omega) | (simp [upN_len]; omega) | (simp [idxBy_len]; omega) | (simp [marks_len]; omega) | (simp [upN_len]; done) | (simp [idxBy_len]; done) | (simp [marks_len]; done) | (simp at *; omega)) (fun sa37 sm37 sc37 hsm37 hs37 => ?_)
          refine LJ.call0 rfl (fun k hk dk => copyInts_ok (hs37 _ (Sts.lr hk dk 0 (by first | rfl | omega | (simp; done) | (simp; omega) | (simp [upN_len]; omega) | (simp [idxBy_len]; omega) | (simp [marks_len]; omega) | (simp [upN_len]; done) | (simp [idxBy_len]; done) | (simp [marks_len]; done) | (simp at *; omega)) rfl)) (by simp; omega)) ?_
          rintro _ _ ⟨ra38, rc38, rfl, rfl⟩
          refine LJ.norm [_, _] rfl ?_
          refine LJ.yd rfl (Yd.asS rfl) ?_
          refine LJ.nil ?_
          refine CJ.region ?_
          refine LJ.yd rfl (Yd.mvS rfl) ?_
          refine LJ.yd rfl (Yd.mvI rfl) ?_
          refine LJ.slHR 0 rfl rfl rfl rfl (by omega) (by first | rfl | omega | (simp; done) | (simp; omega) | (simp [upN_len]; omega) | (simp [idxBy_len]; omega) | (simp [marks_len]; omega) | (simp [upN_len]; done) | (simp [idxBy_len]; done) | (simp [marks_len]; done) | (simp at *; omega)) (fun sm41 hsm41 hs41 => ?_)
          refine LJ.yd rfl (Yd.mvI rfl) ?_
          refine LJ.op rfl (OpR.buildSlice (cs := [_]) rfl rfl) ?_
          rintro _ _ ⟨b5, rfl, rfl⟩
          refine LJ.imp1 0 rfl (fun _ r => Row.shorten sm41 (by first | rfl | omega | (simp; done) | (simp; omega) | (simp [upN_len]; omega) | (simp [idxBy_len]; omega) | (simp [marks_len]; omega) | (simp [upN_len]; done) | (simp [idxBy_len]; done) | (simp [marks_len]; done) | (simp at *; omega)) r) ?_
          refine LJ.norm [_, _, _] rfl ?_
          refine LJ.op rfl (OpR.apT (enc := encI) [_] 0 2 rfl rfl rfl (by first | rfl | omega | (simp; done) | (simp; omega) | (simp [upN_len]; omega) | (simp [idxBy_len]; omega) | (simp [marks_len]; omega) | (simp [upN_len]; done) | (simp [idxBy_len]; done) | (simp [marks_len]; done) | (simp at *; omega)) rfl rfl rfl rfl rfl (by first | rfl | omega | (simp; done) | (simp; omega) | (simp [upN_len]; omega) | (simp [idxBy_len]; omega) | (simp [marks_len]; omega) | (simp [upN_len]; done) | (simp [idxBy_len]; done) | (simp [marks_len]; done) | (simp at *; omega))) ?_
          rintro _ _ ⟨ra44, rc44, rfl, rfl⟩
          refine LJ.norm [_, _, _] rfl ?_
          refine LJ.yd rfl (Yd.mvS rfl) ?_
          refine LJ.op rfl (OpR.apR (enc := encI) 0 1 rfl rfl rfl (by first | rfl | omega | (simp; done) | (simp; omega) | (simp [upN_len]; omega) | (simp [idxBy_len]; omega) | (simp [marks_len]; omega) | (simp [upN_len]; done) | (simp [idxBy_len]; done) | (simp [marks_len]; done) | (simp at *; omega)) rfl (by first | rfl | omega | (simp; done) | (simp; omega) | (simp [upN_len]; omega) | (simp [idxBy_len]; omega) | (simp [marks_len]; omega) | (simp [upN_len]; done) | (simp [idxBy_len]; done) | (simp [marks_len]; done) | (simp at *; omega)) (fun _ => rfl) (by first | rfl | omega | (simp; done) | (simp; omega) | (simp [upN_len]; omega) | (simp [idxBy_len]; omega) | (simp [marks_len]; omega) | (simp [upN_len]; done) | (simp [idxBy_len]; done) | (simp [marks_len]; done) | (simp at *; omega))) ?_
          rintro _ _ ⟨ra46, rc46, rfl, rfl⟩
          refine LJ.norm [_, _, _] rfl ?_
          refine LJ.yd rfl (Yd.asS rfl) ?_
          refine LJ.nil ?_
          refine CJ.region ?_
          refine LJ.yd rfl (Yd.mvI rfl) ?_
          refine LJ.yd rfl (Yd.add rfl rfl (by unfold I64; omega)) ?_
          refine LJ.yd rfl (Yd.asI rfl) ?_
          refine LJ.nil ?_
          refine ⟨(k + 1, _, _, _, _), ?_, ⟨rfl, rfl, trivial⟩, ⟨rfl, rfl, trivial⟩, Ent.pick [0] [1, 2] rfl, ?_⟩
          · refine ⟨(by first | rfl | omega | (simp; done) | (simp; omega) | (simp [upN_len]; omega) | (simp [idxBy_len]; omega) | (simp [marks_len]; omega) | (simp [upN_len]; done) | (simp [idxBy_len]; done) | (simp [marks_len]; done) | (simp at *; omega)), ?_⟩
            refine ⟨by omega, ?_⟩
            rw [hsm41, ← e2]; simp
          · first | omega | (dsimp only; omega) | (simp only []; omega)
    · refine LJ.nil ?_
      refine CJ.condF rfl ?_
      refine CJ.exit ?_
      refine CJ.seq ?_
      refine CJ.region ?_
      refine LJ.yd rfl (Yd.mvS rfl) ?_
      refine LJ.yd rfl (Yd.asS rfl) ?_
      refine LJ.nil ?_
      refine CJ.ret ?_
      refine Fin.RL 0 (Res.one (ResV.tmp (v := .slice _ _ _) rfl)) rfl (by first | rfl | omega | (simp; done) | (simp; omega) | (simp [upN_len]; omega) | (simp [idxBy_len]; omega) | (simp [marks_len]; omega) | (simp [upN_len]; done) | (simp [idxBy_len]; done) | (simp [marks_len]; done) | (simp at *; omega)) ?_
      rw [hp]; congr 1; omega
end Go.Proofs.Ytkojheinklgdeaa
