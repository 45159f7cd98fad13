/-
  Contracts: orders of indices by a comparison, falling orders.
-/
import Derived.Test.YtbgalcjkmgdaiaaA3
namespace Go.Proofs.Ytbgalcjkmgdaiaa
open Go
set_option maxRecDepth 20000
set_option maxHeartbeats 1000000

theorem copyInts_ok {A : Amb} {v : Value} {l : List Int} (hl : RdL encI 1 A.h v l) (hb : l.length ≤ 1000000) : Ctr Try.prog 70 #[v] A [] (RLP encI 3 1 l) := by
  obtain ⟨la, lc, rfl, hlb, hl⟩ := hl.un
  refine Ctr.body (args := [_]) Try.func70 rfl Try.ntmps70 Try.results70 (by simp) ?_
  refine CJ.seq ?_
  refine CJ.region ?_
  refine LJ.yd rfl (Yd.asS rfl) ?_
  refine LJ.nil ?_
  refine CJ.seq ?_
  refine CJ.region ?_
  refine LJ.op rfl (OpR.buildSlice (cs := []) rfl rfl) ?_
  rintro _ _ ⟨b1, rfl, rfl⟩
  refine LJ.yd rfl (Yd.mvS rfl) ?_
  refine LJ.imp1 0 rfl (fun _ h => Cel.lr (enc := encI) (k := 1) (m := 0) [] rfl rfl rfl rfl h) ?_
  refine LJ.norm [_] rfl ?_
  refine LJ.op rfl (OpR.apA (enc := encI) 0 rfl hl rfl (by first | rfl | omega | (simp; done) | (simp; omega) | (simp [upN_len]; omega) | (simp [idxBy_len]; omega) | (simp [marks_len]; omega) | (simp [upN_len]; done) | (simp [idxBy_len]; done) | (simp [marks_len]; done) | (simp at *; omega)) rfl (fun _ => rfl) (by first | rfl | omega | (simp; done) | (simp; omega) | (simp [upN_len]; omega) | (simp [idxBy_len]; omega) | (simp [marks_len]; omega) | (simp [upN_len]; done) | (simp [idxBy_len]; done) | (simp [marks_len]; done) | (simp at *; omega))) ?_
  rintro _ _ ⟨ra5, rc5, rfl, rfl⟩
  refine LJ.norm [_] rfl ?_
  refine LJ.yd rfl (Yd.asS rfl) ?_
  refine LJ.nil ?_
  refine CJ.ret ?_
  refine Fin.RL 0 (Res.one (ResV.tmp (v := .slice _ _ _) rfl)) rfl (by first | rfl | omega | (simp; done) | (simp; omega) | (simp [upN_len]; omega) | (simp [idxBy_len]; omega) | (simp [marks_len]; omega) | (simp [upN_len]; done) | (simp [idxBy_len]; done) | (simp [marks_len]; done) | (simp at *; omega)) ?_
  rfl
/-- the numbers less than n -/
def upN (n : Nat) : List Int := (List.range n).map fun (i : Nat) => (i : Int)
theorem upN_len (n : Nat) : (upN n).length = n := by simp [upN]
theorem upN_succ (n : Nat) : upN (n + 1) = upN n ++ [(n : Int)] := by simp [upN, List.range_succ]
theorem upN_mem {n : Nat} {x : Int} : x ∈ upN n ↔ 0 ≤ x ∧ x < n := by
  simp only [upN, List.mem_map, List.mem_range]
  exact ⟨fun ⟨i, h, e⟩ => by omega, fun h => ⟨x.toNat, by omega, by omega⟩⟩
theorem insAll_append (lt : Int → Int → Bool) : ∀ (a b p : List Int), insAll lt p (a ++ b) = insAll lt (insAll lt p a) b
  | [], _, _ => rfl
  | x :: a, b, p => insAll_append lt a b _
/-- the first n indices, ordered -/
def idxBy (lt : Int → Int → Bool) (n : Nat) : List Int := insAll lt [] (upN n)
theorem idxBy_succ (lt : Int → Int → Bool) (n : Nat) : idxBy lt (n + 1) = (ins lt n (idxBy lt n).reverse).reverse := by
  simp only [idxBy, upN_succ, insAll_append]; rfl
theorem idxBy_len (lt : Int → Int → Bool) (n : Nat) : (idxBy lt n).length = n := by simp [idxBy, insAll_length, upN_len]
theorem idxBy_mem {lt : Int → Int → Bool} {n : Nat} {x : Int} : x ∈ idxBy lt n ↔ 0 ≤ x ∧ x < n := by simp [idxBy, insAll_mem, upN_mem]
theorem upN_set {n k : Nat} (h : k < n) : (upN k ++ List.replicate (n - k) (0 : Int)).set k k = upN (k + 1) ++ List.replicate (n - (k + 1)) 0 := by
  obtain ⟨m, rfl⟩ : ∃ m, n = k + 1 + m := ⟨n - k - 1, by omega⟩
  rw [show k + 1 + m - k = m + 1 by omega, show k + 1 + m - (k + 1) = m by omega, upN_succ, List.set_append_right _ _ (by rw [upN_len]; omega), upN_len, Nat.sub_self, List.replicate_succ, List.set_cons_zero]
  simp
theorem sortS_ok {A : Amb} {F : FuncId} {caps : List Value} {D : Int → Prop} {lt : Int → Int → Bool} {g c : Nat} {l : List Int} {m : Nat} [TyFn Try.prog F] (hc : Cmp A F caps D lt) (hl : ∀ x ∈ l, D x) (h1 : l.length ≤ 20) (hm : m = l.length) :
    Ctr Try.prog 67 #[.slice (some ⟨g, 0, none⟩) m c, .func (.func F) #[] caps.toArray] A [LR encI 3 1 (some ⟨g, 0, none⟩) c l] (fun v gs => v = .tuple #[] ∧ gs = [LR encI 3 1 (some ⟨g, 0, none⟩) c (insAll lt [] l)]) := by
  subst hm
  refine Ctr.body (args := [_, _]) Try.func67 rfl Try.ntmps67 Try.results67 (by simp) ?_
  refine CJ.region ?_
  refine LJ.yd rfl (Yd.mvS rfl) ?_
  refine LJ.yd rfl (Yd.mvS rfl) ?_
  refine LJ.yd rfl (Yd.len rfl) ?_
  refine LJ.yd rfl (Yd.mvF rfl) ?_
  refine LJ.call (pickF _ []) (pickF _ [0]) rfl (perm_pickF _ [] [0] rfl) (fun k hk dk => stable_ok hc.up hl h1) ?_
  rintro _ _ ⟨rfl, rfl⟩
  refine LJ.norm [_] rfl ?_
  refine LJ.nil ?_
  refine Fin.ofRet ?_
  exact Fin.R [_] Res.none ⟨rfl, rfl⟩ (Ent.refl _)
theorem indicesBy_ok {A : Amb} {F : FuncId} {caps : List Value} {lt : Int → Int → Bool} {n : Nat} [TyFn Try.prog F] (hc : Cmp A F caps (fun x => 0 ≤ x ∧ x < n) lt) (h1 : n ≤ 20) :
    Ctr Try.prog 46 #[vI n, .func (.func F) #[] caps.toArray] A [] (RLP encI 3 1 (idxBy lt n)) := by
  refine Ctr.body (args := [_, _]) Try.func46 rfl Try.ntmps46 Try.results46 (by simp) ?_
  refine CJ.seq ?_
  refine CJ.region ?_
  refine LJ.yd rfl (Yd.asS rfl) ?_
  refine LJ.nil ?_
  refine CJ.seq ?_
  refine CJ.region ?_
  refine LJ.yd rfl (Yd.mvI rfl) ?_
  refine LJ.op rfl (OpR.mk (enc := encI) (0 : Int) (m := n) rfl rfl rfl (by first | rfl | omega | (simp; done) | (simp; omega) | (simp [upN_len]; omega) | (simp [idxBy_len]; omega) | (simp [marks_len]; omega) | (simp [upN_len]; done) | (simp [idxBy_len]; done) | (simp [marks_len]; done) | (simp at *; omega))) ?_
  rintro _ _ ⟨g8, rfl, rfl⟩
  refine LJ.norm [_] rfl ?_
  refine LJ.yd rfl (Yd.asS rfl) ?_
  refine LJ.nil ?_
  refine CJ.seq ?_
  refine CJ.seq ?_
  refine CJ.region ?_
  refine LJ.yd rfl (Yd.mvS rfl) ?_
  refine LJ.yd rfl (Yd.len rfl) ?_
  refine LJ.yd rfl (Yd.mvI rfl) ?_
  refine LJ.nil ?_
  refine CJ.block ?_
  refine CJ.loopF [1, 4, 5, 10] Nat (fun k => k ≤ n) (fun k => [(11, vI k)]) (fun k => [LR encI 3 1 (some ⟨g8, 0, none⟩) n (upN k ++ List.replicate (n - k) 0)]) (fun k => n - k) (0) [] [] [0] rfl rfl rfl ?_ ⟨rfl, trivial⟩ ?_
  · exact by omega
  · rintro k σ hk1
    refine CJ.norm [_] rfl ?_
    refine CJ.seq ?_
    refine CJ.region ?_
    refine LJ.splitD rfl (Yd.lss rfl rfl) (fun h12 => ?_) (fun h12 => ?_)
    · refine LJ.nil ?_
      refine CJ.seq ?_
      refine CJ.condT rfl ?_
      refine CJ.skip ?_
      refine CJ.seq ?_
      refine CJ.block ?_
      refine CJ.seq ?_
      refine CJ.region ?_
      refine LJ.yd rfl (Yd.mvI rfl) ?_
      refine LJ.yd rfl (Yd.asI rfl) ?_
      refine LJ.nil ?_
      refine CJ.region ?_
      refine LJ.yd rfl (Yd.mvS rfl) ?_
      refine LJ.yd rfl (Yd.mvI rfl) ?_
      refine LJ.yd rfl (Yd.mvI rfl) ?_
      refine LJ.idxR 0 rfl rfl rfl rfl (by omega) (by omega) (by simp [upN_len]; omega) (fun ib17 ia17 => ?_)
      refine LJ.op rfl (OpR.st1 (enc := encI) (e1 := fun u => vI u) 0 (fun _ => rfl) (fun _ => rfl) (fun _ => rfl) rfl ia17 rfl rfl rfl (by simp [upN_len]; omega)) ?_
      rintro _ _ ⟨rfl, rfl⟩
      refine LJ.norm [_] rfl ?_
      refine LJ.nil ?_
      refine CJ.norm [LR encI 3 1 (some ⟨g8, 0, none⟩) n (upN (k + 1) ++ List.replicate (n - (k + 1)) 0)] (by rw [← upN_set (by omega)]; rfl) ?_
      refine CJ.region ?_
      refine LJ.yd rfl (Yd.add rfl rfl (by unfold I64; omega)) ?_
      refine LJ.yd rfl (Yd.mvI rfl) ?_
      refine LJ.nil ?_
      refine ⟨(k + 1), ?_, ⟨rfl, rfl, rfl, rfl, trivial⟩, ⟨rfl, trivial⟩, Ent.refl _, ?_⟩
      · omega
      · first | omega | (dsimp only; omega) | (simp only []; omega)
    · refine LJ.nil ?_
      refine CJ.seq ?_
      refine CJ.condF rfl ?_
      refine CJ.exit ?_
      refine CJ.seq ?_
      have e2 : upN k ++ List.replicate (n - k) 0 = upN n := by
        obtain rfl : k = n := by omega
        simp
      rw [e2]
      refine CJ.region ?_
      refine LJ.yd rfl (Yd.mvS rfl) ?_
      refine LJ.yd rfl (Yd.mvF rfl) ?_
      refine LJ.call (pickF _ []) (pickF _ [0]) rfl (perm_pickF _ [] [0] rfl) (fun k hk dk => sortS_ok hc.up (fun x hx => upN_mem.1 hx) (by rw [upN_len]; exact h1) (upN_len n).symm) ?_
      rintro _ _ ⟨rfl, rfl⟩
      refine LJ.norm [_] rfl ?_
      refine LJ.nil ?_
      refine CJ.seq ?_
      refine CJ.region ?_
      refine LJ.yd rfl (Yd.mvS rfl) ?_
      refine LJ.yd rfl (Yd.asS rfl) ?_
      refine LJ.nil ?_
      refine CJ.ret ?_
      refine Fin.RL 0 (Res.one (ResV.tmp (v := .slice _ _ _) rfl)) rfl (idxBy_len lt n).symm ?_
      rfl
abbrev gt (l : List Int) (x : Int) : Int := l.getD x.toNat 0
theorem gtC {l : List Int} {x u : Int} (h : l[x.toNat]? = some u) : gt l x = u := by simp [gt, List.getD_eq_getElem?_getD, h]
theorem gtC' {l : List Int} {k : Nat} {u : Int} (h : l[k]? = some u) : gt l k = u := by simp [gt, List.getD_eq_getElem?_getD, h]
/-- a number is greater than another one of a list -/
def ltF (l : List Int) (x y : Int) : Bool := decide (gt l y < gt l x)
end Go.Proofs.Ytbgalcjkmgdaiaa
