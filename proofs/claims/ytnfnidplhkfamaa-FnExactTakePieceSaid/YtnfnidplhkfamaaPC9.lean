/-
  Contracts: the largest clear box, in the program and in the reference.
-/
import Derived.Test.YtnfnidplhkfamaaPC8
namespace Go.Proofs.Ytnfnidplhkfamaa
open Go
set_option maxRecDepth 20000
set_option maxHeartbeats 2000000

def lgP (p : Piece) : Box := if pcOk p = true then lgS p.fl (lnL (IX p.fl) p.w) (lnL (IY p.fl) p.h) else zeroB
theorem lgP_T {p : Piece} (h : pcOk p = true) : lgP p = lgS p.fl (lnL (IX p.fl) p.w) (lnL (IY p.fl) p.h) := if_pos h
theorem lgP_F {p : Piece} (h : pcOk p = false) : lgP p = zeroB := if_neg (by rw [h]; simp)
/-- a box found so far -/
def Fd (o : Box) : Prop := 0 ≤ o.W ∧ o.W ≤ 200 ∧ 0 ≤ o.H ∧ o.H ≤ 200 ∧ (o.W = 0 → o.H = 0)
theorem Fd.zero : Fd zeroB := by simp [Fd, zeroB]
theorem area_i {a b : Int} (h1 : 0 ≤ a) (h2 : a ≤ 200) (h3 : 0 ≤ b) (h4 : b ≤ 200) : 0 ≤ a * b ∧ a * b ≤ 40000 := by
  have e1 : 0 * b ≤ a * b := Int.mul_le_mul_of_nonneg_right h1 h3
  have e2 : a * b ≤ 200 * b := Int.mul_le_mul_of_nonneg_right h2 h3
  omega
theorem Fd.area {o : Box} (h : Fd o) : I64 (o.W * o.H) := by
  obtain ⟨h1, h2, h3, h4, _⟩ := h
  have := area_i h1 h2 h3 h4
  unfold I64; omega
theorem Fd.flat {o : Box} (h : Fd o) (h2 : ¬ o.W > 0) : o.W * o.H = 0 := by rw [show o.W = 0 by have := h.1; omega, Int.zero_mul]
theorem bOk_Fd {b : Box} (h : bOk b = true) : Fd b := by
  obtain ⟨_, _, _, _, _, _, _, _⟩ := bOk_iff.1 h
  unfold Fd; omega
theorem clrG_ok {p : Piece} {b : Box} (hp : pcOk p = true) (h : clrG p.w p.h p.fl b = true) : bOk b = true := by
  obtain ⟨_, _, hw, _, _⟩ := pcOk_iff.1 hp
  obtain ⟨⟨_, _, _, _, _, _⟩, _⟩ := clrG_iff.1 h
  exact bOk_iff.2 (by omega)
theorem stp_T {q : Box → Bool} {o b : Box} (h1 : q b = true) (h2 : bt b o = true) : stp q o b = b := if_pos ⟨h1, h2⟩
theorem stp_F {q : Box → Bool} {o b : Box} (h : q b = false ∨ bt b o = false) : stp q o b = o := if_neg fun ⟨h1, h2⟩ => by rcases h with h | h <;> simp_all
/-! ## between lines -/
def s4 (fl : List Box) (y t x : Int) (o : Box) (r : Int) : Box := stp (clr fl) o (boxS (y, t) (x, r))
def s3 (fl : List Box) (xs : List Int) (o : Box) (yy : Int × Int) : Box := (prs xs).foldl (fun o xx => stp (clr fl) o (boxS yy xx)) o
theorem lgS_fold (fl : List Box) (xs ys : List Int) : lgS fl xs ys = (prs ys).foldl (s3 fl xs) zeroB := by
  rw [lgS, L2, foldl_flat]
  congr 1; funext o yy; rw [List.foldl_map]; rfl
theorem prs_drop {xs : List Int} {k : Nat} {u : Int} (h : xs[k]? = some u) : prs (xs.drop k) = (xs.drop (k + 1)).map (fun y => (u, y)) ++ prs (xs.drop (k + 1)) := by rw [dropC h]; rfl
theorem prs_end {xs : List Int} {k : Nat} (h : xs.length ≤ k) : prs (xs.drop k) = [] := by rw [List.drop_of_length_le h]; rfl
theorem bt_spec {b o : Box} (h : b.W * b.H = o.W * o.H) : bt b o = (if b.Y ≠ o.Y then decide (b.Y < o.Y) else if b.X ≠ o.X then decide (b.X < o.X) else decide (b.W < o.W)) := by unfold bt; rw [if_neg (by omega)]
theorem bt_lt {b o : Box} (h : ¬ b.W * b.H = o.W * o.H) (h2 : ¬ o.W * o.H < b.W * b.H) : bt b o = false := by unfold bt; rw [if_pos h]; exact decide_eq_false h2
theorem largestS_ok {A : Amb} {p : Piece} {v : Value} (hf : RdL Box.enc 4 A.h v p.fl) (hp : pcOk p = true) : Ctr Try.prog 58 #[.agg #[vI p.l, vI p.w, vI p.h, v]] A [] (Val (.tuple #[agB (lgP p), .bool (decide (0 < (lgP p).W))])) := by
  obtain ⟨fa, fc, rfl, hfb, hf⟩ := hf.un
  obtain ⟨_, _, hwh, _, _⟩ := pcOk_iff.1 hp
  have hmid := pc_mid hp
  generalize hgx : lnL (IX p.fl) p.w = xs
  generalize hgy : lnL (IY p.fl) p.h = ys
  have hxl : xs.length ≤ 1001 := by rw [← hgx]; exact lnL_le _ (by omega)
  have hyl : ys.length ≤ 1001 := by rw [← hgy]; exact lnL_le _ (by omega)
  have hxm : ∀ u ∈ xs, 0 ≤ u ∧ u ≤ 200 := fun u hu => by rw [← hgx, lnL_mem (by omega)] at hu; exact ⟨hu.1, by have := hu.2.1; omega⟩
  have hym : ∀ u ∈ ys, 0 ≤ u ∧ u ≤ 200 := fun u hu => by rw [← hgy, lnL_mem (by omega)] at hu; exact ⟨hu.1, by have := hu.2.1; omega⟩
  have hxu : xs.Pairwise (· < ·) := by rw [← hgx]; exact lnL_up _ _
  have hyu : ys.Pairwise (· < ·) := by rw [← hgy]; exact lnL_up _ _
  have hT : lgP p = lgS p.fl xs ys := by rw [lgP_T hp, hgx, hgy]
  have asc : ∀ {l : List Int}, l.Pairwise (· < ·) → ∀ {i j : Nat} {u w : Int}, i < j → l[i]? = some u → l[j]? = some w → u < w := fun {l} hl {i j u w} hij hu hw => by
    obtain ⟨h1, rfl⟩ := List.getElem?_eq_some_iff.1 hu
    obtain ⟨h2, rfl⟩ := List.getElem?_eq_some_iff.1 hw
    exact List.pairwise_iff_getElem.1 hl i j h1 h2 hij
  refine Ctr.body (args := [_]) Try.func58 rfl Try.ntmps58 Try.results58 (by simp) ?_
  refine CJ.seq ?_
  refine CJ.region ?_
  refine LJ.boxG (vs := [_, _, _, _]) rfl rfl (fun b1 => ?_)
  refine LJ.alloc ([_, _, _, _] : List Value) rfl rfl (fun b2 => ?_)
  refine LJ.yd rfl (Yd.asB rfl) ?_
  refine LJ.nil ?_
  refine CJ.seq ?_
  refine CJ.region ?_
  refine LJ.yd rfl (Yd.loadG (us := [_, _, _, _]) 0 rfl rfl rfl rfl) ?_
  refine LJ.call0 rfl (fun k hk dk => (hgx ▸ linesX_ok (l := p.l) (W := p.w) (H := p.h) hf.up hmid (by omega))) ?_
  rintro _ _ ⟨ra13, rc13, rfl, rfl⟩
  refine LJ.norm [_, _, _] rfl ?_
  refine LJ.yd rfl (Yd.asS rfl) ?_
  refine LJ.nil ?_
  refine CJ.seq ?_
  refine CJ.region ?_
  refine LJ.yd rfl (Yd.loadG (us := [_, _, _, _]) 0 rfl rfl rfl rfl) ?_
  refine LJ.call0 rfl (fun k hk dk => (hgy ▸ linesY_ok (l := p.l) (W := p.w) (H := p.h) hf.up hmid (by omega))) ?_
  rintro _ _ ⟨ra15, rc15, rfl, rfl⟩
  refine LJ.norm [_, _, _, _] rfl ?_
  refine LJ.yd rfl (Yd.asS rfl) ?_
  refine LJ.nil ?_
  refine CJ.seq ?_
  refine CJ.amb (perm_pickF _ [2] [0, 1, 3] rfl) (fun mxs wxs dxs => ?_)
  refine CJ.norm [_, _, _] rfl ?_
  have hxs := Row.toA (enc := encI) wxs dxs (by first | rfl | omega | (simp; done) | (simp; omega) | (simp [upN_len]; omega) | (simp [idxBy_len]; omega) | (simp [marks_len]; omega) | (simp [upN_len]; done) | (simp [idxBy_len]; done) | (simp [marks_len]; done) | (simp at *; omega))
  replace hf := lift2 hf hxs
  refine CJ.amb (perm_pickF _ [2] [0, 1] rfl) (fun mys wys dys => ?_)
  refine CJ.norm [_, _] rfl ?_
  have hys := Row.toA (enc := encI) wys dys (by first | rfl | omega | (simp; done) | (simp; omega) | (simp [upN_len]; omega) | (simp [idxBy_len]; omega) | (simp [marks_len]; omega) | (simp [upN_len]; done) | (simp [idxBy_len]; done) | (simp [marks_len]; done) | (simp at *; omega))
  replace hf := lift2 hf hys
  replace hxs := lift2 hxs hys
  refine CJ.region ?_
  refine LJ.yd rfl (Yd.build (cs := [_, _, _, _]) rfl) ?_
  refine LJ.alloc ([_, _, _, _] : List Value) rfl rfl (fun b3 => ?_)
  refine LJ.store (v := .agg #[_, _, _, _]) (us := [_, _, _, _]) 2 rfl rfl rfl rfl rfl rfl rfl rfl ?_
  refine LJ.nil ?_
  refine CJ.seq ?_
  refine CJ.seq ?_
  refine CJ.region ?_
  refine LJ.yd rfl (Yd.asI rfl) ?_
  refine LJ.nil ?_
  refine CJ.block ?_
  refine CJ.loopF [1, 2, 3, 4, 5, 6] (Nat × Box) (fun ⟨a, o⟩ => a ≤ ys.length ∧ Fd o ∧ (prs (ys.drop a)).foldl (s3 p.fl xs) o = lgS p.fl xs ys) (fun ⟨a, o⟩ => [(7, vI a)]) (fun ⟨a, o⟩ => [Cel b3 33 [vI o.X, vI o.Y, vI o.W, vI o.H]]) (fun ⟨a, o⟩ => ys.length - a) (0, zeroB) [_, _] [0, 1] [2] rfl rfl rfl ?_ ⟨rfl, trivial⟩ ?_
  · exact ⟨by omega, Fd.zero, by rw [List.drop_zero, lgS_fold]⟩
  · rintro ⟨a, o⟩ σ ⟨ha1, hF1, hi1⟩
    refine CJ.norm [_, _, _] rfl ?_
    refine CJ.seq ?_
    refine CJ.seq ?_
    refine CJ.region ?_
    refine LJ.yd rfl (Yd.mvI rfl) ?_
    refine LJ.yd rfl (Yd.mvS rfl) ?_
    refine LJ.yd rfl (Yd.len rfl) ?_
    refine LJ.splitD rfl (Yd.lss rfl rfl) (fun h20 => ?_) (fun h20 => ?_)
    · refine LJ.nil ?_
      refine CJ.condT rfl ?_
      refine CJ.skip ?_
      refine CJ.seq ?_
      refine CJ.block ?_
      refine CJ.seq ?_
      obtain ⟨ya, hya⟩ := someC (l := ys) (j := a) (by omega)
      have hyaf := hym ya (List.mem_of_getElem? hya)
      rw [prs_drop hya, List.foldl_append] at hi1
      refine CJ.region ?_
      refine LJ.yd rfl (Yd.mvI rfl) ?_
      refine LJ.yd rfl (Yd.add rfl rfl (by unfold I64; omega)) ?_
      refine LJ.yd rfl (Yd.asI rfl) ?_
      refine LJ.nil ?_
      refine CJ.block ?_
      refine CJ.loopF [1, 2, 3, 4, 5, 6, 7, 17, 18, 19, 20, 23, 24] (Nat × Box) (fun ⟨c, o2⟩ => c ≤ ys.length ∧ a + 1 ≤ c ∧ Fd o2 ∧ ((ys.drop c).map fun y => (ya, y)).foldl (s3 p.fl xs) o2 = ((ys.drop (a + 1)).map fun y => (ya, y)).foldl (s3 p.fl xs) o) (fun ⟨c, o2⟩ => [(8, vI c)]) (fun ⟨c, o2⟩ => [Cel b3 33 [vI o2.X, vI o2.Y, vI o2.W, vI o2.H]]) (fun ⟨c, o2⟩ => ys.length - c) (a + 1, o) [_, _] [0, 1] [2] rfl rfl rfl ?_ ⟨rfl, trivial⟩ ?_
      · exact ⟨by omega, by omega, hF1, rfl⟩
      · rintro ⟨c, o2⟩ σ ⟨hc1, hac, hF2, hi2⟩
        refine CJ.norm [_, _, _] rfl ?_
        refine CJ.seq ?_
        refine CJ.seq ?_
        refine CJ.region ?_
        refine LJ.yd rfl (Yd.mvI rfl) ?_
        refine LJ.yd rfl (Yd.mvS rfl) ?_
        refine LJ.yd rfl (Yd.len rfl) ?_
        refine LJ.splitD rfl (Yd.lss rfl rfl) (fun h28 => ?_) (fun h28 => ?_)
        · refine LJ.nil ?_
          refine CJ.condT rfl ?_
          refine CJ.skip ?_
          refine CJ.seq ?_
          refine CJ.block ?_
          refine CJ.seq ?_
          obtain ⟨yc, hyc⟩ := someC (l := ys) (j := c) (by omega)
          have hycf := hym yc (List.mem_of_getElem? hyc)
          have hyac := asc hyu (by omega) hya hyc
          rw [dropC hyc, List.map_cons, List.foldl_cons] at hi2
          refine CJ.region ?_
          refine LJ.yd rfl (Yd.asI rfl) ?_
          refine LJ.nil ?_
          refine CJ.block ?_
          refine CJ.loopF [1, 2, 3, 4, 5, 6, 7, 8, 17, 18, 19, 20, 23, 24, 25, 26, 27, 28] (Nat × Box) (fun ⟨i, o3⟩ => i ≤ xs.length ∧ Fd o3 ∧ (prs (xs.drop i)).foldl (fun o xx => stp (clr p.fl) o (boxS (ya, yc) xx)) o3 = s3 p.fl xs o2 (ya, yc)) (fun ⟨i, o3⟩ => [(9, vI i)]) (fun ⟨i, o3⟩ => [Cel b3 33 [vI o3.X, vI o3.Y, vI o3.W, vI o3.H]]) (fun ⟨i, o3⟩ => xs.length - i) (0, o2) [_, _] [0, 1] [2] rfl rfl rfl ?_ ⟨rfl, trivial⟩ ?_
          · exact ⟨by omega, hF2, rfl⟩
          · rintro ⟨i, o3⟩ σ ⟨hi9, hF3, hi3⟩
            refine CJ.norm [_, _, _] rfl ?_
            refine CJ.seq ?_
            refine CJ.seq ?_
            refine CJ.region ?_
            refine LJ.yd rfl (Yd.mvI rfl) ?_
            refine LJ.yd rfl (Yd.mvS rfl) ?_
            refine LJ.yd rfl (Yd.len rfl) ?_
            refine LJ.splitD rfl (Yd.lss rfl rfl) (fun h34 => ?_) (fun h34 => ?_)
            · refine LJ.nil ?_
              refine CJ.condT rfl ?_
              refine CJ.skip ?_
              refine CJ.seq ?_
              refine CJ.block ?_
              refine CJ.seq ?_
              obtain ⟨xi, hxi⟩ := someC (l := xs) (j := i) (by omega)
              have hxif := hxm xi (List.mem_of_getElem? hxi)
              rw [prs_drop hxi, List.foldl_append, List.foldl_map] at hi3
              refine CJ.region ?_
              refine LJ.yd rfl (Yd.mvI rfl) ?_
              refine LJ.yd rfl (Yd.add rfl rfl (by unfold I64; omega)) ?_
              refine LJ.yd rfl (Yd.asI rfl) ?_
              refine LJ.nil ?_
              refine CJ.block ?_
              refine CJ.loopF [1, 2, 3, 4, 5, 6, 7, 8, 9, 17, 18, 19, 20, 23, 24, 25, 26, 27, 28, 31, 32, 33, 34, 37, 38] (Nat × Box) (fun ⟨k, o4⟩ => k ≤ xs.length ∧ i + 1 ≤ k ∧ Fd o4 ∧ (xs.drop k).foldl (fun o r => stp (clr p.fl) o (boxS (ya, yc) (xi, r))) o4 = (xs.drop (i + 1)).foldl (fun o r => stp (clr p.fl) o (boxS (ya, yc) (xi, r))) o3) (fun ⟨k, o4⟩ => [(10, vI k)]) (fun ⟨k, o4⟩ => [Cel b3 33 [vI o4.X, vI o4.Y, vI o4.W, vI o4.H]]) (fun ⟨k, o4⟩ => xs.length - k) (i + 1, o3) [_, _] [0, 1] [2] rfl rfl rfl ?_ ⟨rfl, trivial⟩ ?_
              · exact ⟨by omega, by omega, hF3, rfl⟩
              · rintro ⟨k, o4⟩ σ ⟨hk9, hik9, hF4, hi4⟩
                refine CJ.norm [_, _, _] rfl ?_
                refine CJ.seq ?_
                refine CJ.seq ?_
                refine CJ.region ?_
                refine LJ.yd rfl (Yd.mvI rfl) ?_
                refine LJ.yd rfl (Yd.mvS rfl) ?_
                refine LJ.yd rfl (Yd.len rfl) ?_
                refine LJ.splitD rfl (Yd.lss rfl rfl) (fun h42 => ?_) (fun h42 => ?_)
                · refine LJ.nil ?_
                  refine CJ.condT rfl ?_
                  refine CJ.skip ?_
                  refine CJ.seq ?_
                  refine CJ.block ?_
                  refine CJ.seq ?_
                  refine CJ.regionD [0, 1, 2] [] (by kernel_rfl) rfl ?_
                  refine DJ.norm [_, _, _] [] rfl rfl ?_
                  refine DJ.yd 0 rfl (by kernel_rfl) (by kernel_rfl) (by kernel_rfl) rfl rfl (Yd.mvS rfl) ?_
                  refine DJ.yd 1 rfl (by kernel_rfl) (by kernel_rfl) (by kernel_rfl) rfl rfl (Yd.mvI rfl) ?_
                  refine DJ.idxA 2 rfl (by kernel_rfl) (by kernel_rfl) (by kernel_rfl) rfl rfl hxs rfl rfl (by omega) (by first | rfl | omega | (simp; done) | (simp; omega) | (simp [upN_len]; omega) | (simp [idxBy_len]; omega) | (simp [marks_len]; omega) | (simp [upN_len]; done) | (simp [idxBy_len]; done) | (simp [marks_len]; done) | (simp at *; omega)) (fun ib47 io47 ia47 ir47 => ?_)
                  refine DJ.ldA 3 rfl (by kernel_rfl) (by kernel_rfl) (by kernel_rfl) rfl rfl 0 (fun u => vI u) (fun _ => rfl) ir47 rfl rfl (by first | rfl | omega | (simp; done) | (simp; omega) | (simp [upN_len]; omega) | (simp [idxBy_len]; omega) | (simp [marks_len]; omega) | (simp [upN_len]; done) | (simp [idxBy_len]; done) | (simp [marks_len]; done) | (simp at *; omega)) (fun u48 hu48 => ?_)
                  try simp only [Int.toNat_natCast] at hu48
                  obtain rfl : xi = u48 := by rw [hxi] at hu48; exact Option.some.inj hu48
                  refine DJ.yd 4 rfl (by kernel_rfl) (by kernel_rfl) (by kernel_rfl) rfl rfl (Yd.mvS rfl) ?_
                  refine DJ.yd 5 rfl (by kernel_rfl) (by kernel_rfl) (by kernel_rfl) rfl rfl (Yd.mvI rfl) ?_
                  refine DJ.idxA 6 rfl (by kernel_rfl) (by kernel_rfl) (by kernel_rfl) rfl rfl hys rfl rfl (by omega) (by first | rfl | omega | (simp; done) | (simp; omega) | (simp [upN_len]; omega) | (simp [idxBy_len]; omega) | (simp [marks_len]; omega) | (simp [upN_len]; done) | (simp [idxBy_len]; done) | (simp [marks_len]; done) | (simp at *; omega)) (fun ib51 io51 ia51 ir51 => ?_)
                  refine DJ.ldA 7 rfl (by kernel_rfl) (by kernel_rfl) (by kernel_rfl) rfl rfl 0 (fun u => vI u) (fun _ => rfl) ir51 rfl rfl (by first | rfl | omega | (simp; done) | (simp; omega) | (simp [upN_len]; omega) | (simp [idxBy_len]; omega) | (simp [marks_len]; omega) | (simp [upN_len]; done) | (simp [idxBy_len]; done) | (simp [marks_len]; done) | (simp at *; omega)) (fun u52 hu52 => ?_)
                  try simp only [Int.toNat_natCast] at hu52
                  obtain rfl : ya = u52 := by rw [hya] at hu52; exact Option.some.inj hu52
                  refine DJ.yd 8 rfl (by kernel_rfl) (by kernel_rfl) (by kernel_rfl) rfl rfl (Yd.mvS rfl) ?_
                  refine DJ.yd 9 rfl (by kernel_rfl) (by kernel_rfl) (by kernel_rfl) rfl rfl (Yd.mvI rfl) ?_
                  refine DJ.idxA 10 rfl (by kernel_rfl) (by kernel_rfl) (by kernel_rfl) rfl rfl hxs rfl rfl (by omega) (by first | rfl | omega | (simp; done) | (simp; omega) | (simp [upN_len]; omega) | (simp [idxBy_len]; omega) | (simp [marks_len]; omega) | (simp [upN_len]; done) | (simp [idxBy_len]; done) | (simp [marks_len]; done) | (simp at *; omega)) (fun ib55 io55 ia55 ir55 => ?_)
                  refine DJ.ldA 11 rfl (by kernel_rfl) (by kernel_rfl) (by kernel_rfl) rfl rfl 0 (fun u => vI u) (fun _ => rfl) ir55 rfl rfl (by first | rfl | omega | (simp; done) | (simp; omega) | (simp [upN_len]; omega) | (simp [idxBy_len]; omega) | (simp [marks_len]; omega) | (simp [upN_len]; done) | (simp [idxBy_len]; done) | (simp [marks_len]; done) | (simp at *; omega)) (fun u56 hu56 => ?_)
                  try simp only [Int.toNat_natCast] at hu56
                  have hxk := hxm u56 (List.mem_of_getElem? hu56)
                  have hik := asc hxu (by omega) hxi hu56
                  refine DJ.yd 12 rfl (by kernel_rfl) (by kernel_rfl) (by kernel_rfl) rfl rfl (Yd.mvS rfl) ?_
                  refine DJ.yd 13 rfl (by kernel_rfl) (by kernel_rfl) (by kernel_rfl) rfl rfl (Yd.mvI rfl) ?_
                  refine DJ.idxA 14 rfl (by kernel_rfl) (by kernel_rfl) (by kernel_rfl) rfl rfl hxs rfl rfl (by omega) (by first | rfl | omega | (simp; done) | (simp; omega) | (simp [upN_len]; omega) | (simp [idxBy_len]; omega) | (simp [marks_len]; omega) | (simp [upN_len]; done) | (simp [idxBy_len]; done) | (simp [marks_len]; done) | (simp at *; omega)) (fun ib59 io59 ia59 ir59 => ?_)
                  refine DJ.ldA 15 rfl (by kernel_rfl) (by kernel_rfl) (by kernel_rfl) rfl rfl 0 (fun u => vI u) (fun _ => rfl) ir59 rfl rfl (by first | rfl | omega | (simp; done) | (simp; omega) | (simp [upN_len]; omega) | (simp [idxBy_len]; omega) | (simp [marks_len]; omega) | (simp [upN_len]; done) | (simp [idxBy_len]; done) | (simp [marks_len]; done) | (simp at *; omega)) (fun u60 hu60 => ?_)
                  try simp only [Int.toNat_natCast] at hu60
                  obtain rfl : xi = u60 := by rw [hxi] at hu60; exact Option.some.inj hu60
                  refine DJ.yd 16 rfl (by kernel_rfl) (by kernel_rfl) (by kernel_rfl) rfl rfl (Yd.sub rfl rfl (by unfold I64; omega)) ?_
                  refine DJ.yd 17 rfl (by kernel_rfl) (by kernel_rfl) (by kernel_rfl) rfl rfl (Yd.mvS rfl) ?_
                  refine DJ.yd 18 rfl (by kernel_rfl) (by kernel_rfl) (by kernel_rfl) rfl rfl (Yd.mvI rfl) ?_
                  refine DJ.idxA 19 rfl (by kernel_rfl) (by kernel_rfl) (by kernel_rfl) rfl rfl hys rfl rfl (by omega) (by first | rfl | omega | (simp; done) | (simp; omega) | (simp [upN_len]; omega) | (simp [idxBy_len]; omega) | (simp [marks_len]; omega) | (simp [upN_len]; done) | (simp [idxBy_len]; done) | (simp [marks_len]; done) | (simp at *; omega)) (fun ib64 io64 ia64 ir64 => ?_)
                  refine DJ.ldA 20 rfl (by kernel_rfl) (by kernel_rfl) (by kernel_rfl) rfl rfl 0 (fun u => vI u) (fun _ => rfl) ir64 rfl rfl (by first | rfl | omega | (simp; done) | (simp; omega) | (simp [upN_len]; omega) | (simp [idxBy_len]; omega) | (simp [marks_len]; omega) | (simp [upN_len]; done) | (simp [idxBy_len]; done) | (simp [marks_len]; done) | (simp at *; omega)) (fun u65 hu65 => ?_)
                  try simp only [Int.toNat_natCast] at hu65
                  obtain rfl : yc = u65 := by rw [hyc] at hu65; exact Option.some.inj hu65
                  refine DJ.yd 21 rfl (by kernel_rfl) (by kernel_rfl) (by kernel_rfl) rfl rfl (Yd.mvS rfl) ?_
                  refine DJ.yd 22 rfl (by kernel_rfl) (by kernel_rfl) (by kernel_rfl) rfl rfl (Yd.mvI rfl) ?_
                  refine DJ.idxA 23 rfl (by kernel_rfl) (by kernel_rfl) (by kernel_rfl) rfl rfl hys rfl rfl (by omega) (by first | rfl | omega | (simp; done) | (simp; omega) | (simp [upN_len]; omega) | (simp [idxBy_len]; omega) | (simp [marks_len]; omega) | (simp [upN_len]; done) | (simp [idxBy_len]; done) | (simp [marks_len]; done) | (simp at *; omega)) (fun ib68 io68 ia68 ir68 => ?_)
                  refine DJ.ldA 24 rfl (by kernel_rfl) (by kernel_rfl) (by kernel_rfl) rfl rfl 0 (fun u => vI u) (fun _ => rfl) ir68 rfl rfl (by first | rfl | omega | (simp; done) | (simp; omega) | (simp [upN_len]; omega) | (simp [idxBy_len]; omega) | (simp [marks_len]; omega) | (simp [upN_len]; done) | (simp [idxBy_len]; done) | (simp [marks_len]; done) | (simp at *; omega)) (fun u69 hu69 => ?_)
                  try simp only [Int.toNat_natCast] at hu69
                  obtain rfl : ya = u69 := by rw [hya] at hu69; exact Option.some.inj hu69
                  refine DJ.yd 25 rfl (by kernel_rfl) (by kernel_rfl) (by kernel_rfl) rfl rfl (Yd.sub rfl rfl (by unfold I64; omega)) ?_
                  refine DJ.yd 26 rfl (by kernel_rfl) (by kernel_rfl) (by kernel_rfl) rfl rfl (Yd.build (cs := [_, _, _, _]) rfl) ?_
                  refine DJ.one (i := 27) (by kernel_rfl) ?_
                  refine DO.alloc ([_, _, _, _] : List Value) rfl rfl rfl rfl (fun b4 => ?_)
                  refine DJ.one (i := 28) (by kernel_rfl) ?_
                  refine DO.store (v := .agg #[_, _, _, _]) (us := [_, _, _, _]) 0 rfl rfl rfl rfl rfl rfl rfl rfl rfl rfl ?_
                  refine DJ.done (by kernel_rfl) ?_
                  refine CJ.seq ?_
                  have hbk : bOk ⟨xi, ya, u56 - xi, yc - ya⟩ = true := bOk_iff.2 (by simp only; omega)
                  have har := (bOk_Fd hbk).area
                  have hao := hF4.area
                  simp only at har
                  have hab : 1 * 1 ≤ (u56 - xi) * (yc - ya) := Int.mul_le_mul (by omega) (by omega) (by omega) (by omega)
                  refine CJ.region ?_
                  refine LJ.yd rfl (Yd.fieldAddr rfl) ?_
                  refine LJ.yd rfl (Yd.loadC 3 rfl rfl rfl) ?_
                  refine LJ.yd rfl (Yd.fieldAddr rfl) ?_
                  refine LJ.yd rfl (Yd.loadC 3 rfl rfl rfl) ?_
                  refine LJ.yd rfl (Yd.mul rfl rfl har) ?_
                  refine LJ.yd rfl (Yd.fieldAddr rfl) ?_
                  refine LJ.yd rfl (Yd.loadC 2 rfl rfl rfl) ?_
                  refine LJ.yd rfl (Yd.fieldAddr rfl) ?_
                  refine LJ.yd rfl (Yd.loadC 2 rfl rfl rfl) ?_
                  refine LJ.yd rfl (Yd.mul rfl rfl hao) ?_
                  refine LJ.splitD rfl (Yd.gtr rfl rfl) (fun h82 => ?_) (fun h82 => ?_)
                  · refine LJ.yd rfl (Yd.mvB rfl) ?_
                    refine LJ.gT rfl ?_
                    refine LJ.yd rfl (Yd.loadG (us := [_, _, _, _]) 0 rfl rfl rfl rfl) ?_
                    refine LJ.gT rfl ?_
                    refine LJ.yd rfl (Yd.loadG (us := [_, _, _, _]) 3 rfl rfl rfl rfl) ?_
                    refine LJ.gT rfl ?_
                    refine LJ.callB rfl (fun k hk dk => clearAtS_ok (l := p.l) (w := p.w) (h := p.h) hf.up hmid ⟨xi, ya, u56 - xi, yc - ya⟩ (bOk_mid hbk)) (fun h86 => ?_) (fun h86 => ?_)
                    · refine LJ.yd rfl (Yd.pickTB rfl rfl) ?_
                      refine LJ.yd rfl (Yd.mvB rfl) ?_
                      refine LJ.gF rfl rfl ?_
                      refine LJ.gF rfl rfl ?_
                      refine LJ.gF rfl rfl ?_
                      refine LJ.gF rfl rfl ?_
                      refine LJ.gF rfl rfl ?_
                      refine LJ.gF rfl rfl ?_
                      refine LJ.gF rfl rfl ?_
                      refine LJ.gF rfl rfl ?_
                      refine LJ.gF rfl rfl ?_
                      refine LJ.gF rfl rfl ?_
                      refine LJ.gF rfl rfl ?_
                      refine LJ.gF rfl rfl ?_
                      refine LJ.gF rfl rfl ?_
                      refine LJ.gF rfl rfl ?_
                      refine LJ.gF rfl rfl ?_
                      refine LJ.gF rfl rfl ?_
                      refine LJ.gF rfl rfl ?_
                      refine LJ.gF rfl rfl ?_
                      refine LJ.gF rfl rfl ?_
                      refine LJ.gF rfl rfl ?_
                      refine LJ.gF rfl rfl ?_
                      refine LJ.gF rfl rfl ?_
                      refine LJ.gF rfl rfl ?_
                      refine LJ.gF rfl rfl ?_
                      refine LJ.gF rfl rfl ?_
                      refine LJ.gF rfl rfl ?_
                      refine LJ.yd rfl (Yd.pickTB rfl rfl) ?_
                      refine LJ.nil ?_
                      refine CJ.condT rfl ?_
                      refine CJ.region ?_
                      refine LJ.yd rfl (Yd.loadG (us := [_, _, _, _]) 3 rfl rfl rfl rfl) ?_
                      refine LJ.store (v := .agg #[_, _, _, _]) (us := [_, _, _, _]) 2 rfl rfl rfl rfl rfl rfl rfl rfl ?_
                      refine LJ.nil ?_
                      refine CJ.region ?_
                      refine LJ.yd rfl (Yd.mvI rfl) ?_
                      refine LJ.yd rfl (Yd.add rfl rfl (by unfold I64; omega)) ?_
                      refine LJ.yd rfl (Yd.asI rfl) ?_
                      refine LJ.nil ?_
                      refine ⟨(k + 1, (⟨xi, ya, u56 - xi, yc - ya⟩ : Box)), ?_, ⟨rfl, rfl, rfl, rfl, rfl, rfl, rfl, rfl, rfl, rfl, rfl, rfl, rfl, rfl, rfl, rfl, rfl, rfl, rfl, rfl, rfl, rfl, rfl, rfl, rfl, trivial⟩, ⟨rfl, trivial⟩, Ent.pick [0, 1, 2] [3] rfl, ?_⟩
                      · refine ⟨by omega, ?_⟩
                        rw [dropC hu56, List.foldl_cons, show stp (clr p.fl) o4 (boxS (ya, yc) (xi, u56)) = ⟨xi, ya, u56 - xi, yc - ya⟩ from stp_T (by assumption) (by first | exact bt_area (by assumption) | exact (bt_spec (by assumption)).trans (by assumption))] at hi4
                        exact ⟨by omega, bOk_Fd hbk, hi4⟩
                      · first | omega | (dsimp only; omega) | (simp only []; omega)
                    · refine LJ.yd rfl (Yd.pickTB rfl rfl) ?_
                      refine LJ.yd rfl (Yd.mvB rfl) ?_
                      refine LJ.gT rfl ?_
                      refine LJ.yd rfl (Yd.fieldAddr rfl) ?_
                      refine LJ.gT rfl ?_
                      refine LJ.yd rfl (Yd.loadC 3 rfl rfl rfl) ?_
                      refine LJ.gT rfl ?_
                      refine LJ.yd rfl (Yd.fieldAddr rfl) ?_
                      refine LJ.gT rfl ?_
                      refine LJ.yd rfl (Yd.loadC 3 rfl rfl rfl) ?_
                      refine LJ.gT rfl ?_
                      refine LJ.yd rfl (Yd.mul rfl rfl har) ?_
                      refine LJ.gT rfl ?_
                      refine LJ.yd rfl (Yd.fieldAddr rfl) ?_
                      refine LJ.gT rfl ?_
                      refine LJ.yd rfl (Yd.loadC 2 rfl rfl rfl) ?_
                      refine LJ.gT rfl ?_
                      refine LJ.yd rfl (Yd.fieldAddr rfl) ?_
                      refine LJ.gT rfl ?_
                      refine LJ.yd rfl (Yd.loadC 2 rfl rfl rfl) ?_
                      refine LJ.gT rfl ?_
                      refine LJ.yd rfl (Yd.mul rfl rfl hao) ?_
                      refine LJ.gT rfl ?_
                      refine LJ.splitD rfl (Yd.eql rfl rfl) (fun h99 => ?_) (fun h99 => ?_)
                      · refine LJ.gT rfl ?_
                        refine LJ.yd rfl (Yd.mvB rfl) ?_
                        refine LJ.gT rfl ?_
                        refine LJ.yd rfl (Yd.fieldAddr rfl) ?_
                        refine LJ.gT rfl ?_
                        refine LJ.yd rfl (Yd.loadC 2 rfl rfl rfl) ?_
                        refine LJ.gT rfl ?_
                        refine LJ.splitD rfl (Yd.gtr rfl rfl) (fun h103 => ?_) (fun h103 => ?_)
                        · refine LJ.gT rfl ?_
                          refine LJ.yd rfl (Yd.pickTB rfl rfl) ?_
                          refine LJ.gT rfl ?_
                          refine LJ.yd rfl (Yd.mvB rfl) ?_
                          refine LJ.gT rfl ?_
                          refine LJ.yd rfl (Yd.loadG (us := [_, _, _, _]) 3 rfl rfl rfl rfl) ?_
                          refine LJ.gT rfl ?_
                          refine LJ.yd rfl (Yd.loadG (us := [_, _, _, _]) 2 rfl rfl rfl rfl) ?_
                          refine LJ.gT rfl ?_
                          refine LJ.callB rfl (fun k hk dk => before_ok _ ⟨xi, ya, u56 - xi, yc - ya⟩ o4) (fun h108 => ?_) (fun h108 => ?_)
                          · refine LJ.gT rfl ?_
                            refine LJ.yd rfl (Yd.pickTB rfl rfl) ?_
                            refine LJ.gT rfl ?_
                            refine LJ.yd rfl (Yd.mvB rfl) ?_
                            refine LJ.gT rfl ?_
                            refine LJ.yd rfl (Yd.loadG (us := [_, _, _, _]) 0 rfl rfl rfl rfl) ?_
                            refine LJ.gT rfl ?_
                            refine LJ.yd rfl (Yd.loadG (us := [_, _, _, _]) 3 rfl rfl rfl rfl) ?_
                            refine LJ.gT rfl ?_
                            refine LJ.callB rfl (fun k hk dk => clearAtS_ok (l := p.l) (w := p.w) (h := p.h) hf.up hmid ⟨xi, ya, u56 - xi, yc - ya⟩ (bOk_mid hbk)) (fun h113 => ?_) (fun h113 => ?_)
                            · refine LJ.gT rfl ?_
                              refine LJ.yd rfl (Yd.pickTB rfl rfl) ?_
                              refine LJ.yd rfl (Yd.pickFB rfl rfl) ?_
                              refine LJ.nil ?_
                              refine CJ.condT rfl ?_
                              refine CJ.region ?_
                              refine LJ.yd rfl (Yd.loadG (us := [_, _, _, _]) 3 rfl rfl rfl rfl) ?_
                              refine LJ.store (v := .agg #[_, _, _, _]) (us := [_, _, _, _]) 2 rfl rfl rfl rfl rfl rfl rfl rfl ?_
                              refine LJ.nil ?_
                              refine CJ.region ?_
                              refine LJ.yd rfl (Yd.mvI rfl) ?_
                              refine LJ.yd rfl (Yd.add rfl rfl (by unfold I64; omega)) ?_
                              refine LJ.yd rfl (Yd.asI rfl) ?_
                              refine LJ.nil ?_
                              refine ⟨(k + 1, (⟨xi, ya, u56 - xi, yc - ya⟩ : Box)), ?_, ⟨rfl, rfl, rfl, rfl, rfl, rfl, rfl, rfl, rfl, rfl, rfl, rfl, rfl, rfl, rfl, rfl, rfl, rfl, rfl, rfl, rfl, rfl, rfl, rfl, rfl, trivial⟩, ⟨rfl, trivial⟩, Ent.pick [0, 1, 2] [3] rfl, ?_⟩
                              · refine ⟨by omega, ?_⟩
                                rw [dropC hu56, List.foldl_cons, show stp (clr p.fl) o4 (boxS (ya, yc) (xi, u56)) = ⟨xi, ya, u56 - xi, yc - ya⟩ from stp_T (by assumption) (by first | exact bt_area (by assumption) | exact (bt_spec (by assumption)).trans (by assumption))] at hi4
                                exact ⟨by omega, bOk_Fd hbk, hi4⟩
                              · first | omega | (dsimp only; omega) | (simp only []; omega)
                            · refine LJ.gT rfl ?_
                              refine LJ.yd rfl (Yd.pickTB rfl rfl) ?_
                              refine LJ.yd rfl (Yd.pickFB rfl rfl) ?_
                              refine LJ.nil ?_
                              refine CJ.condF rfl ?_
                              refine CJ.skip ?_
                              refine CJ.region ?_
                              refine LJ.yd rfl (Yd.mvI rfl) ?_
                              refine LJ.yd rfl (Yd.add rfl rfl (by unfold I64; omega)) ?_
                              refine LJ.yd rfl (Yd.asI rfl) ?_
                              refine LJ.nil ?_
                              refine ⟨(k + 1, o4), ?_, ⟨rfl, rfl, rfl, rfl, rfl, rfl, rfl, rfl, rfl, rfl, rfl, rfl, rfl, rfl, rfl, rfl, rfl, rfl, rfl, rfl, rfl, rfl, rfl, rfl, rfl, trivial⟩, ⟨rfl, trivial⟩, Ent.pick [0, 1, 2] [3] rfl, ?_⟩
                              · refine ⟨by omega, ?_⟩
                                rw [dropC hu56, List.foldl_cons, show stp (clr p.fl) o4 (boxS (ya, yc) (xi, u56)) = o4 from stp_F (by first | exact .inl (by assumption) | exact .inr (bt_lt (by assumption) (by assumption)) | exact .inr ((bt_spec (by assumption)).trans (by assumption)) | exact absurd (hF4.flat (by assumption)) (by omega))] at hi4
                                exact ⟨by omega, hF4, hi4⟩
                              · first | omega | (dsimp only; omega) | (simp only []; omega)
                          · refine LJ.gT rfl ?_
                            refine LJ.yd rfl (Yd.pickTB rfl rfl) ?_
                            refine LJ.gT rfl ?_
                            refine LJ.yd rfl (Yd.mvB rfl) ?_
                            refine LJ.gF rfl rfl ?_
                            refine LJ.gF rfl rfl ?_
                            refine LJ.gF rfl rfl ?_
                            refine LJ.gT rfl ?_
                            refine LJ.yd rfl (Yd.pickFB rfl rfl) ?_
                            refine LJ.yd rfl (Yd.pickFB rfl rfl) ?_
                            refine LJ.nil ?_
                            refine CJ.condF rfl ?_
                            refine CJ.skip ?_
                            refine CJ.region ?_
                            refine LJ.yd rfl (Yd.mvI rfl) ?_
                            refine LJ.yd rfl (Yd.add rfl rfl (by unfold I64; omega)) ?_
                            refine LJ.yd rfl (Yd.asI rfl) ?_
                            refine LJ.nil ?_
                            refine ⟨(k + 1, o4), ?_, ⟨rfl, rfl, rfl, rfl, rfl, rfl, rfl, rfl, rfl, rfl, rfl, rfl, rfl, rfl, rfl, rfl, rfl, rfl, rfl, rfl, rfl, rfl, rfl, rfl, rfl, trivial⟩, ⟨rfl, trivial⟩, Ent.pick [0, 1, 2] [3] rfl, ?_⟩
                            · refine ⟨by omega, ?_⟩
                              rw [dropC hu56, List.foldl_cons, show stp (clr p.fl) o4 (boxS (ya, yc) (xi, u56)) = o4 from stp_F (by first | exact .inl (by assumption) | exact .inr (bt_lt (by assumption) (by assumption)) | exact .inr ((bt_spec (by assumption)).trans (by assumption)) | exact absurd (hF4.flat (by assumption)) (by omega))] at hi4
                              exact ⟨by omega, hF4, hi4⟩
                            · first | omega | (dsimp only; omega) | (simp only []; omega)
                        · refine LJ.gT rfl ?_
                          refine LJ.yd rfl (Yd.pickTB rfl rfl) ?_
                          refine LJ.gT rfl ?_
                          refine LJ.yd rfl (Yd.mvB rfl) ?_
                          refine LJ.gF rfl rfl ?_
                          refine LJ.gF rfl rfl ?_
                          refine LJ.gF rfl rfl ?_
                          refine LJ.gT rfl ?_
                          refine LJ.yd rfl (Yd.pickFB rfl rfl) ?_
                          refine LJ.gT rfl ?_
                          refine LJ.yd rfl (Yd.mvB rfl) ?_
                          refine LJ.gF rfl rfl ?_
                          refine LJ.gF rfl rfl ?_
                          refine LJ.gF rfl rfl ?_
                          refine LJ.gT rfl ?_
                          refine LJ.yd rfl (Yd.pickFB rfl rfl) ?_
                          refine LJ.yd rfl (Yd.pickFB rfl rfl) ?_
                          refine LJ.nil ?_
                          refine CJ.condF rfl ?_
                          refine CJ.skip ?_
                          refine CJ.region ?_
                          refine LJ.yd rfl (Yd.mvI rfl) ?_
                          refine LJ.yd rfl (Yd.add rfl rfl (by unfold I64; omega)) ?_
                          refine LJ.yd rfl (Yd.asI rfl) ?_
                          refine LJ.nil ?_
                          refine ⟨(k + 1, o4), ?_, ⟨rfl, rfl, rfl, rfl, rfl, rfl, rfl, rfl, rfl, rfl, rfl, rfl, rfl, rfl, rfl, rfl, rfl, rfl, rfl, rfl, rfl, rfl, rfl, rfl, rfl, trivial⟩, ⟨rfl, trivial⟩, Ent.pick [0, 1, 2] [3] rfl, ?_⟩
                          · refine ⟨by omega, ?_⟩
                            rw [dropC hu56, List.foldl_cons, show stp (clr p.fl) o4 (boxS (ya, yc) (xi, u56)) = o4 from stp_F (by first | exact .inl (by assumption) | exact .inr (bt_lt (by assumption) (by assumption)) | exact .inr ((bt_spec (by assumption)).trans (by assumption)) | exact absurd (hF4.flat (by assumption)) (by omega))] at hi4
                            exact ⟨by omega, hF4, hi4⟩
                          · first | omega | (dsimp only; omega) | (simp only []; omega)
                      · refine LJ.gT rfl ?_
                        refine LJ.yd rfl (Yd.mvB rfl) ?_
                        refine LJ.gF rfl rfl ?_
                        refine LJ.gF rfl rfl ?_
                        refine LJ.gF rfl rfl ?_
                        refine LJ.gT rfl ?_
                        refine LJ.yd rfl (Yd.pickFB rfl rfl) ?_
                        refine LJ.gT rfl ?_
                        refine LJ.yd rfl (Yd.mvB rfl) ?_
                        refine LJ.gF rfl rfl ?_
                        refine LJ.gF rfl rfl ?_
                        refine LJ.gF rfl rfl ?_
                        refine LJ.gT rfl ?_
                        refine LJ.yd rfl (Yd.pickFB rfl rfl) ?_
                        refine LJ.gT rfl ?_
                        refine LJ.yd rfl (Yd.mvB rfl) ?_
                        refine LJ.gF rfl rfl ?_
                        refine LJ.gF rfl rfl ?_
                        refine LJ.gF rfl rfl ?_
                        refine LJ.gT rfl ?_
                        refine LJ.yd rfl (Yd.pickFB rfl rfl) ?_
                        refine LJ.yd rfl (Yd.pickFB rfl rfl) ?_
                        refine LJ.nil ?_
                        refine CJ.condF rfl ?_
                        refine CJ.skip ?_
                        refine CJ.region ?_
                        refine LJ.yd rfl (Yd.mvI rfl) ?_
                        refine LJ.yd rfl (Yd.add rfl rfl (by unfold I64; omega)) ?_
                        refine LJ.yd rfl (Yd.asI rfl) ?_
                        refine LJ.nil ?_
                        refine ⟨(k + 1, o4), ?_, ⟨rfl, rfl, rfl, rfl, rfl, rfl, rfl, rfl, rfl, rfl, rfl, rfl, rfl, rfl, rfl, rfl, rfl, rfl, rfl, rfl, rfl, rfl, rfl, rfl, rfl, trivial⟩, ⟨rfl, trivial⟩, Ent.pick [0, 1, 2] [3] rfl, ?_⟩
                        · refine ⟨by omega, ?_⟩
                          rw [dropC hu56, List.foldl_cons, show stp (clr p.fl) o4 (boxS (ya, yc) (xi, u56)) = o4 from stp_F (by first | exact .inl (by assumption) | exact .inr (bt_lt (by assumption) (by assumption)) | exact .inr ((bt_spec (by assumption)).trans (by assumption)) | exact absurd (hF4.flat (by assumption)) (by omega))] at hi4
                          exact ⟨by omega, hF4, hi4⟩
                        · first | omega | (dsimp only; omega) | (simp only []; omega)
                  · refine LJ.yd rfl (Yd.mvB rfl) ?_
                    refine LJ.gF rfl rfl ?_
                    refine LJ.gF rfl rfl ?_
                    refine LJ.gF rfl rfl ?_
                    refine LJ.yd rfl (Yd.pickFB rfl rfl) ?_
                    refine LJ.yd rfl (Yd.mvB rfl) ?_
                    refine LJ.gT rfl ?_
                    refine LJ.yd rfl (Yd.fieldAddr rfl) ?_
                    refine LJ.gT rfl ?_
                    refine LJ.yd rfl (Yd.loadC 3 rfl rfl rfl) ?_
                    refine LJ.gT rfl ?_
                    refine LJ.yd rfl (Yd.fieldAddr rfl) ?_
                    refine LJ.gT rfl ?_
                    refine LJ.yd rfl (Yd.loadC 3 rfl rfl rfl) ?_
                    refine LJ.gT rfl ?_
                    refine LJ.yd rfl (Yd.mul rfl rfl har) ?_
                    refine LJ.gT rfl ?_
                    refine LJ.yd rfl (Yd.fieldAddr rfl) ?_
                    refine LJ.gT rfl ?_
                    refine LJ.yd rfl (Yd.loadC 2 rfl rfl rfl) ?_
                    refine LJ.gT rfl ?_
                    refine LJ.yd rfl (Yd.fieldAddr rfl) ?_
                    refine LJ.gT rfl ?_
                    refine LJ.yd rfl (Yd.loadC 2 rfl rfl rfl) ?_
                    refine LJ.gT rfl ?_
                    refine LJ.yd rfl (Yd.mul rfl rfl hao) ?_
                    refine LJ.gT rfl ?_
                    refine LJ.splitD rfl (Yd.eql rfl rfl) (fun h99 => ?_) (fun h99 => ?_)
                    · refine LJ.gT rfl ?_
                      refine LJ.yd rfl (Yd.mvB rfl) ?_
                      refine LJ.gT rfl ?_
                      refine LJ.yd rfl (Yd.fieldAddr rfl) ?_
                      refine LJ.gT rfl ?_
                      refine LJ.yd rfl (Yd.loadC 2 rfl rfl rfl) ?_
                      refine LJ.gT rfl ?_
                      refine LJ.splitD rfl (Yd.gtr rfl rfl) (fun h103 => ?_) (fun h103 => ?_)
                      · refine LJ.gT rfl ?_
                        refine LJ.yd rfl (Yd.pickTB rfl rfl) ?_
                        refine LJ.gT rfl ?_
                        refine LJ.yd rfl (Yd.mvB rfl) ?_
                        refine LJ.gT rfl ?_
                        refine LJ.yd rfl (Yd.loadG (us := [_, _, _, _]) 3 rfl rfl rfl rfl) ?_
                        refine LJ.gT rfl ?_
                        refine LJ.yd rfl (Yd.loadG (us := [_, _, _, _]) 2 rfl rfl rfl rfl) ?_
                        refine LJ.gT rfl ?_
                        refine LJ.callB rfl (fun k hk dk => before_ok _ ⟨xi, ya, u56 - xi, yc - ya⟩ o4) (fun h108 => ?_) (fun h108 => ?_)
                        · refine LJ.gT rfl ?_
                          refine LJ.yd rfl (Yd.pickTB rfl rfl) ?_
                          refine LJ.gT rfl ?_
                          refine LJ.yd rfl (Yd.mvB rfl) ?_
                          refine LJ.gT rfl ?_
                          refine LJ.yd rfl (Yd.loadG (us := [_, _, _, _]) 0 rfl rfl rfl rfl) ?_
                          refine LJ.gT rfl ?_
                          refine LJ.yd rfl (Yd.loadG (us := [_, _, _, _]) 3 rfl rfl rfl rfl) ?_
                          refine LJ.gT rfl ?_
                          refine LJ.callB rfl (fun k hk dk => clearAtS_ok (l := p.l) (w := p.w) (h := p.h) hf.up hmid ⟨xi, ya, u56 - xi, yc - ya⟩ (bOk_mid hbk)) (fun h113 => ?_) (fun h113 => ?_)
                          · refine LJ.gT rfl ?_
                            refine LJ.yd rfl (Yd.pickTB rfl rfl) ?_
                            refine LJ.yd rfl (Yd.pickFB rfl rfl) ?_
                            refine LJ.nil ?_
                            refine CJ.condT rfl ?_
                            refine CJ.region ?_
                            refine LJ.yd rfl (Yd.loadG (us := [_, _, _, _]) 3 rfl rfl rfl rfl) ?_
                            refine LJ.store (v := .agg #[_, _, _, _]) (us := [_, _, _, _]) 2 rfl rfl rfl rfl rfl rfl rfl rfl ?_
                            refine LJ.nil ?_
                            refine CJ.region ?_
                            refine LJ.yd rfl (Yd.mvI rfl) ?_
                            refine LJ.yd rfl (Yd.add rfl rfl (by unfold I64; omega)) ?_
                            refine LJ.yd rfl (Yd.asI rfl) ?_
                            refine LJ.nil ?_
                            refine ⟨(k + 1, (⟨xi, ya, u56 - xi, yc - ya⟩ : Box)), ?_, ⟨rfl, rfl, rfl, rfl, rfl, rfl, rfl, rfl, rfl, rfl, rfl, rfl, rfl, rfl, rfl, rfl, rfl, rfl, rfl, rfl, rfl, rfl, rfl, rfl, rfl, trivial⟩, ⟨rfl, trivial⟩, Ent.pick [0, 1, 2] [3] rfl, ?_⟩
                            · refine ⟨by omega, ?_⟩
                              rw [dropC hu56, List.foldl_cons, show stp (clr p.fl) o4 (boxS (ya, yc) (xi, u56)) = ⟨xi, ya, u56 - xi, yc - ya⟩ from stp_T (by assumption) (by first | exact bt_area (by assumption) | exact (bt_spec (by assumption)).trans (by assumption))] at hi4
                              exact ⟨by omega, bOk_Fd hbk, hi4⟩
                            · first | omega | (dsimp only; omega) | (simp only []; omega)
                          · refine LJ.gT rfl ?_
                            refine LJ.yd rfl (Yd.pickTB rfl rfl) ?_
                            refine LJ.yd rfl (Yd.pickFB rfl rfl) ?_
                            refine LJ.nil ?_
                            refine CJ.condF rfl ?_
                            refine CJ.skip ?_
                            refine CJ.region ?_
                            refine LJ.yd rfl (Yd.mvI rfl) ?_
                            refine LJ.yd rfl (Yd.add rfl rfl (by unfold I64; omega)) ?_
                            refine LJ.yd rfl (Yd.asI rfl) ?_
                            refine LJ.nil ?_
                            refine ⟨(k + 1, o4), ?_, ⟨rfl, rfl, rfl, rfl, rfl, rfl, rfl, rfl, rfl, rfl, rfl, rfl, rfl, rfl, rfl, rfl, rfl, rfl, rfl, rfl, rfl, rfl, rfl, rfl, rfl, trivial⟩, ⟨rfl, trivial⟩, Ent.pick [0, 1, 2] [3] rfl, ?_⟩
                            · refine ⟨by omega, ?_⟩
                              rw [dropC hu56, List.foldl_cons, show stp (clr p.fl) o4 (boxS (ya, yc) (xi, u56)) = o4 from stp_F (by first | exact .inl (by assumption) | exact .inr (bt_lt (by assumption) (by assumption)) | exact .inr ((bt_spec (by assumption)).trans (by assumption)) | exact absurd (hF4.flat (by assumption)) (by omega))] at hi4
                              exact ⟨by omega, hF4, hi4⟩
                            · first | omega | (dsimp only; omega) | (simp only []; omega)
                        · refine LJ.gT rfl ?_
                          refine LJ.yd rfl (Yd.pickTB rfl rfl) ?_
                          refine LJ.gT rfl ?_
                          refine LJ.yd rfl (Yd.mvB rfl) ?_
                          refine LJ.gF rfl rfl ?_
                          refine LJ.gF rfl rfl ?_
                          refine LJ.gF rfl rfl ?_
                          refine LJ.gT rfl ?_
                          refine LJ.yd rfl (Yd.pickFB rfl rfl) ?_
                          refine LJ.yd rfl (Yd.pickFB rfl rfl) ?_
                          refine LJ.nil ?_
                          refine CJ.condF rfl ?_
                          refine CJ.skip ?_
                          refine CJ.region ?_
                          refine LJ.yd rfl (Yd.mvI rfl) ?_
                          refine LJ.yd rfl (Yd.add rfl rfl (by unfold I64; omega)) ?_
                          refine LJ.yd rfl (Yd.asI rfl) ?_
                          refine LJ.nil ?_
                          refine ⟨(k + 1, o4), ?_, ⟨rfl, rfl, rfl, rfl, rfl, rfl, rfl, rfl, rfl, rfl, rfl, rfl, rfl, rfl, rfl, rfl, rfl, rfl, rfl, rfl, rfl, rfl, rfl, rfl, rfl, trivial⟩, ⟨rfl, trivial⟩, Ent.pick [0, 1, 2] [3] rfl, ?_⟩
                          · refine ⟨by omega, ?_⟩
                            rw [dropC hu56, List.foldl_cons, show stp (clr p.fl) o4 (boxS (ya, yc) (xi, u56)) = o4 from stp_F (by first | exact .inl (by assumption) | exact .inr (bt_lt (by assumption) (by assumption)) | exact .inr ((bt_spec (by assumption)).trans (by assumption)) | exact absurd (hF4.flat (by assumption)) (by omega))] at hi4
                            exact ⟨by omega, hF4, hi4⟩
                          · first | omega | (dsimp only; omega) | (simp only []; omega)
                      · refine LJ.gT rfl ?_
                        refine LJ.yd rfl (Yd.pickTB rfl rfl) ?_
                        refine LJ.gT rfl ?_
                        refine LJ.yd rfl (Yd.mvB rfl) ?_
                        refine LJ.gF rfl rfl ?_
                        refine LJ.gF rfl rfl ?_
                        refine LJ.gF rfl rfl ?_
                        refine LJ.gT rfl ?_
                        refine LJ.yd rfl (Yd.pickFB rfl rfl) ?_
                        refine LJ.gT rfl ?_
                        refine LJ.yd rfl (Yd.mvB rfl) ?_
                        refine LJ.gF rfl rfl ?_
                        refine LJ.gF rfl rfl ?_
                        refine LJ.gF rfl rfl ?_
                        refine LJ.gT rfl ?_
                        refine LJ.yd rfl (Yd.pickFB rfl rfl) ?_
                        refine LJ.yd rfl (Yd.pickFB rfl rfl) ?_
                        refine LJ.nil ?_
                        refine CJ.condF rfl ?_
                        refine CJ.skip ?_
                        refine CJ.region ?_
                        refine LJ.yd rfl (Yd.mvI rfl) ?_
                        refine LJ.yd rfl (Yd.add rfl rfl (by unfold I64; omega)) ?_
                        refine LJ.yd rfl (Yd.asI rfl) ?_
                        refine LJ.nil ?_
                        refine ⟨(k + 1, o4), ?_, ⟨rfl, rfl, rfl, rfl, rfl, rfl, rfl, rfl, rfl, rfl, rfl, rfl, rfl, rfl, rfl, rfl, rfl, rfl, rfl, rfl, rfl, rfl, rfl, rfl, rfl, trivial⟩, ⟨rfl, trivial⟩, Ent.pick [0, 1, 2] [3] rfl, ?_⟩
                        · refine ⟨by omega, ?_⟩
                          rw [dropC hu56, List.foldl_cons, show stp (clr p.fl) o4 (boxS (ya, yc) (xi, u56)) = o4 from stp_F (by first | exact .inl (by assumption) | exact .inr (bt_lt (by assumption) (by assumption)) | exact .inr ((bt_spec (by assumption)).trans (by assumption)) | exact absurd (hF4.flat (by assumption)) (by omega))] at hi4
                          exact ⟨by omega, hF4, hi4⟩
                        · first | omega | (dsimp only; omega) | (simp only []; omega)
                    · refine LJ.gT rfl ?_
                      refine LJ.yd rfl (Yd.mvB rfl) ?_
                      refine LJ.gF rfl rfl ?_
                      refine LJ.gF rfl rfl ?_
                      refine LJ.gF rfl rfl ?_
                      refine LJ.gT rfl ?_
                      refine LJ.yd rfl (Yd.pickFB rfl rfl) ?_
                      refine LJ.gT rfl ?_
                      refine LJ.yd rfl (Yd.mvB rfl) ?_
                      refine LJ.gF rfl rfl ?_
                      refine LJ.gF rfl rfl ?_
                      refine LJ.gF rfl rfl ?_
                      refine LJ.gT rfl ?_
                      refine LJ.yd rfl (Yd.pickFB rfl rfl) ?_
                      refine LJ.gT rfl ?_
                      refine LJ.yd rfl (Yd.mvB rfl) ?_
                      refine LJ.gF rfl rfl ?_
                      refine LJ.gF rfl rfl ?_
                      refine LJ.gF rfl rfl ?_
                      refine LJ.gT rfl ?_
                      refine LJ.yd rfl (Yd.pickFB rfl rfl) ?_
                      refine LJ.yd rfl (Yd.pickFB rfl rfl) ?_
                      refine LJ.nil ?_
                      refine CJ.condF rfl ?_
                      refine CJ.skip ?_
                      refine CJ.region ?_
                      refine LJ.yd rfl (Yd.mvI rfl) ?_
                      refine LJ.yd rfl (Yd.add rfl rfl (by unfold I64; omega)) ?_
                      refine LJ.yd rfl (Yd.asI rfl) ?_
                      refine LJ.nil ?_
                      refine ⟨(k + 1, o4), ?_, ⟨rfl, rfl, rfl, rfl, rfl, rfl, rfl, rfl, rfl, rfl, rfl, rfl, rfl, rfl, rfl, rfl, rfl, rfl, rfl, rfl, rfl, rfl, rfl, rfl, rfl, trivial⟩, ⟨rfl, trivial⟩, Ent.pick [0, 1, 2] [3] rfl, ?_⟩
                      · refine ⟨by omega, ?_⟩
                        rw [dropC hu56, List.foldl_cons, show stp (clr p.fl) o4 (boxS (ya, yc) (xi, u56)) = o4 from stp_F (by first | exact .inl (by assumption) | exact .inr (bt_lt (by assumption) (by assumption)) | exact .inr ((bt_spec (by assumption)).trans (by assumption)) | exact absurd (hF4.flat (by assumption)) (by omega))] at hi4
                        exact ⟨by omega, hF4, hi4⟩
                      · first | omega | (dsimp only; omega) | (simp only []; omega)
                · refine LJ.nil ?_
                  refine CJ.condF rfl ?_
                  refine CJ.exit ?_
                  refine CJ.region ?_
                  refine LJ.yd rfl (Yd.mvI rfl) ?_
                  refine LJ.yd rfl (Yd.add rfl rfl (by unfold I64; omega)) ?_
                  refine LJ.yd rfl (Yd.asI rfl) ?_
                  refine LJ.nil ?_
                  refine ⟨(i + 1, o4), ?_, ⟨rfl, rfl, rfl, rfl, rfl, rfl, rfl, rfl, rfl, rfl, rfl, rfl, rfl, rfl, rfl, rfl, rfl, rfl, trivial⟩, ⟨rfl, trivial⟩, Ent.refl _, ?_⟩
                  · refine ⟨by omega, ?_⟩
                    rw [List.drop_of_length_le (by omega), List.foldl_nil] at hi4
                    rw [← hi4] at hi3
                    exact ⟨hF4, hi3⟩
                  · first | omega | (dsimp only; omega) | (simp only []; omega)
            · refine LJ.nil ?_
              refine CJ.condF rfl ?_
              refine CJ.exit ?_
              refine CJ.region ?_
              refine LJ.yd rfl (Yd.mvI rfl) ?_
              refine LJ.yd rfl (Yd.add rfl rfl (by unfold I64; omega)) ?_
              refine LJ.yd rfl (Yd.asI rfl) ?_
              refine LJ.nil ?_
              refine ⟨(c + 1, o3), ?_, ⟨rfl, rfl, rfl, rfl, rfl, rfl, rfl, rfl, rfl, rfl, rfl, rfl, rfl, trivial⟩, ⟨rfl, trivial⟩, Ent.refl _, ?_⟩
              · refine ⟨by omega, ?_⟩
                rw [prs_end (by omega), List.foldl_nil] at hi3
                rw [← hi3] at hi2
                exact ⟨by omega, hF3, hi2⟩
              · first | omega | (dsimp only; omega) | (simp only []; omega)
        · refine LJ.nil ?_
          refine CJ.condF rfl ?_
          refine CJ.exit ?_
          refine CJ.region ?_
          refine LJ.yd rfl (Yd.mvI rfl) ?_
          refine LJ.yd rfl (Yd.add rfl rfl (by unfold I64; omega)) ?_
          refine LJ.yd rfl (Yd.asI rfl) ?_
          refine LJ.nil ?_
          refine ⟨(a + 1, o2), ?_, ⟨rfl, rfl, rfl, rfl, rfl, rfl, trivial⟩, ⟨rfl, trivial⟩, Ent.refl _, ?_⟩
          · refine ⟨by omega, ?_⟩
            rw [List.drop_of_length_le (by omega), List.map_nil, List.foldl_nil] at hi2
            rw [← hi2] at hi1
            exact ⟨hF2, hi1⟩
          · first | omega | (dsimp only; omega) | (simp only []; omega)
    · refine LJ.nil ?_
      refine CJ.condF rfl ?_
      refine CJ.exit ?_
      refine CJ.seq ?_
      refine CJ.regionD [0, 2] [1] (by kernel_rfl) rfl ?_
      refine DJ.norm [_, _] [_] rfl rfl ?_
      refine DJ.yd 0 rfl (by kernel_rfl) (by kernel_rfl) (by kernel_rfl) rfl rfl (Yd.loadG (us := [_, _, _, _]) 1 rfl rfl rfl rfl) ?_
      refine DJ.yd 1 rfl (by kernel_rfl) (by kernel_rfl) (by kernel_rfl) rfl rfl (Yd.fieldAddr rfl) ?_
      refine DJ.yd 2 rfl (by kernel_rfl) (by kernel_rfl) (by kernel_rfl) rfl rfl (Yd.loadC 1 rfl rfl rfl) ?_
      refine DJ.yd 3 rfl (by kernel_rfl) (by kernel_rfl) (by kernel_rfl) rfl rfl (Yd.gtr rfl rfl) ?_
      refine DJ.one (i := 4) (by kernel_rfl) ?_
      refine DO.store (v := .agg #[_, _, _, _]) (us := [_, _, _, _]) 0 rfl rfl rfl rfl rfl rfl rfl rfl rfl rfl ?_
      refine DJ.yd 5 rfl (by kernel_rfl) (by kernel_rfl) (by kernel_rfl) rfl rfl (Yd.asB rfl) ?_
      refine DJ.done (by kernel_rfl) ?_
      refine CJ.ret ?_
      refine Fin.V (Res.two (ResV.cell (us := [_, _, _, _]) 2 rfl rfl rfl rfl) (ResV.tmp (v := .bool _) rfl)) ?_
      rw [prs_end (by omega), List.foldl_nil] at hi1
      rw [hT, ← hi1]
theorem LargestClearS_ok {A : Amb} {p : Piece} {v : Value} (hf : RdL Box.enc 4 A.h v p.fl) (hw : I64 p.w) (hh : I64 p.h) : Ctr Try.prog 17 #[.agg #[vI p.l, vI p.w, vI p.h, v]] A [] (Val (.tuple #[agB (lgP p), .bool (decide (0 < (lgP p).W))])) := by
  obtain ⟨fa, fc, rfl, hfb, hf⟩ := hf.un
  refine Ctr.body (args := [_]) Try.func17 rfl Try.ntmps17 Try.results17 (by simp) ?_
  refine CJ.seq ?_
  refine CJ.region ?_
  refine LJ.boxG (vs := [_, _, _, _]) rfl rfl (fun b1 => ?_)
  refine LJ.alloc ([_, _, _, _] : List Value) rfl rfl (fun b2 => ?_)
  refine LJ.yd rfl (Yd.asB rfl) ?_
  refine LJ.nil ?_
  refine CJ.seq ?_
  refine CJ.seq ?_
  refine CJ.region ?_
  refine LJ.yd rfl (Yd.loadG (us := [_, _, _, _]) 0 rfl rfl rfl rfl) ?_
  refine LJ.callB rfl (fun k hk dk => validPieceS_ok hf.up hw hh) (fun h5 => ?_) (fun h5 => ?_)
  · refine LJ.yd rfl (Yd.not rfl) ?_
    refine LJ.nil ?_
    refine CJ.condF rfl ?_
    refine CJ.skip ?_
    refine CJ.seq ?_
    refine CJ.region ?_
    refine LJ.yd rfl (Yd.loadG (us := [_, _, _, _]) 0 rfl rfl rfl rfl) ?_
    refine LJ.callV rfl (fun k hk dk => largestS_ok hf.up h5) ?_
    refine LJ.yd rfl (Yd.extract rfl rfl) ?_
    refine LJ.yd rfl (Yd.extract rfl rfl) ?_
    refine LJ.store (v := .agg #[_, _, _, _]) (us := [_, _, _, _]) 1 rfl rfl rfl rfl rfl rfl rfl rfl ?_
    refine LJ.yd rfl (Yd.asB rfl) ?_
    refine LJ.nil ?_
    refine CJ.ret ?_
    refine Fin.V (Res.two (ResV.cell (us := [_, _, _, _]) 1 rfl rfl rfl rfl) (ResV.tmp (v := .bool _) rfl)) ?_
    first
      | (rw [lgP_F h5]; rfl)
      | rfl
  · refine LJ.yd rfl (Yd.not rfl) ?_
    refine LJ.nil ?_
    refine CJ.condT rfl ?_
    refine CJ.seq ?_
    refine CJ.region ?_
    refine LJ.yd rfl (Yd.build (cs := [_, _, _, _]) rfl) ?_
    refine LJ.store (v := .agg #[_, _, _, _]) (us := [_, _, _, _]) 1 rfl rfl rfl rfl rfl rfl rfl rfl ?_
    refine LJ.yd rfl (Yd.asB rfl) ?_
    refine LJ.nil ?_
    refine CJ.ret ?_
    refine Fin.V (Res.two (ResV.cell (us := [_, _, _, _]) 1 rfl rfl rfl rfl) (ResV.tmp (v := .bool false) rfl)) ?_
    first
      | (rw [lgP_F h5]; rfl)
      | rfl
/-! ## between edges -/
def g4 (q : Box → Bool) (y t x : Int) (o : Box) (r : Int) : Box := stp q o ⟨x, y, r - x, t - y⟩
def g3 (q : Box → Bool) (xe : List Int) (y t : Int) (o : Box) (x : Int) : Box := xe.foldl (g4 q y t x) o
def g2 (q : Box → Bool) (xb xe : List Int) (y : Int) (o : Box) (t : Int) : Box := xb.foldl (g3 q xe y t) o
def g1 (q : Box → Bool) (xb xe ye : List Int) (o : Box) (y : Int) : Box := ye.foldl (g2 q xb xe y) o
theorem L1_fold (q : Box → Bool) (xb xe yb ye : List Int) (o : Box) : (L1 xb xe yb ye).foldl (stp q) o = yb.foldl (g1 q xb xe ye) o := by
  unfold L1
  simp only [foldl_flat, List.foldl_map]
  rfl
theorem lgP_edges {p : Piece} (hp : pcOk p = true) : (begY p.fl).foldl (g1 (clrG p.w p.h p.fl) (begX p.fl) (endX p.w p.fl) (endY p.h p.fl)) zeroB = lgP p := by
  obtain ⟨_, _, hw, _, _⟩ := pcOk_iff.1 hp
  rw [lgP_T hp, ← L1_fold]
  exact lg_same (pc_G hp) (by omega) (by omega) (fun n => lnL_mem (by omega)) (fun n => lnL_mem (by omega)) (lnL_up _ _) (lnL_up _ _)
theorem edge_b {p : Piece} (hp : pcOk p = true) : (∀ u ∈ begX p.fl, 0 ≤ u ∧ u ≤ 200) ∧ (∀ u ∈ endX p.w p.fl, 0 ≤ u ∧ u ≤ 200) ∧ (∀ u ∈ begY p.fl, 0 ≤ u ∧ u ≤ 200) ∧ (∀ u ∈ endY p.h p.fl, 0 ≤ u ∧ u ≤ 200) := by
  obtain ⟨_, _, hw, _, _⟩ := pcOk_iff.1 hp
  have hG := pc_G hp
  refine ⟨?_, ?_, ?_, ?_⟩ <;>
  · intro u hu
    rcases List.mem_cons.1 hu with rfl | hu
    · omega
    · obtain ⟨f, hf, rfl⟩ := List.mem_map.1 hu
      obtain ⟨_, _, _, _, _, _⟩ := hG f hf
      omega
theorem begX_take {fl : List Box} {k : Nat} {u : Box} (h : fl[k]? = some u) : begX (fl.take (k + 1)) = begX (fl.take k) ++ [u.X + u.W] ∧ begY (fl.take (k + 1)) = begY (fl.take k) ++ [u.Y + u.H] ∧ (∀ W, endX W (fl.take (k + 1)) = endX W (fl.take k) ++ [u.X]) ∧ ∀ H, endY H (fl.take (k + 1)) = endY H (fl.take k) ++ [u.Y] := by
  rw [takeC h]
  simp [begX, begY, endX, endY]
theorem edgesOf_ok {A : Amb} {p : Piece} {v : Value} (hf : RdL Box.enc 4 A.h v p.fl) (hm : ∀ f ∈ p.fl, f.mid) (hb : p.fl.length ≤ 100000) : Ctr Try.prog 55 #[.agg #[vI p.l, vI p.w, vI p.h, v]] A []
    (fun v gs => ∃ a1 c1 a2 c2 a3 c3 a4 c4, v = .tuple #[.agg #[.slice a1 (begX p.fl).length c1, .slice a2 (endX p.w p.fl).length c2], .agg #[.slice a3 (begY p.fl).length c3, .slice a4 (endY p.h p.fl).length c4]] ∧
      gs = [LR encI 3 1 a1 c1 (begX p.fl), LR encI 3 1 a2 c2 (endX p.w p.fl), LR encI 3 1 a3 c3 (begY p.fl), LR encI 3 1 a4 c4 (endY p.h p.fl)]) := by
  obtain ⟨fa, fc, rfl, hfb, hf⟩ := hf.un
  refine Ctr.body (args := [_]) Try.func55 rfl Try.ntmps55 Try.results55 (by simp) ?_
  refine CJ.seq ?_
  refine CJ.region ?_
  refine LJ.boxG (vs := [_, _, _, _]) rfl rfl (fun b1 => ?_)
  refine LJ.alloc ([_, _] : List Value) rfl rfl (fun b2 => ?_)
  refine LJ.alloc ([_, _] : List Value) rfl rfl (fun b3 => ?_)
  refine LJ.nil ?_
  refine CJ.seq ?_
  refine CJ.region ?_
  refine LJ.op rfl (OpR.buildSlice (cs := [_]) rfl rfl) ?_
  rintro _ _ ⟨b4, rfl, rfl⟩
  refine LJ.yd rfl (Yd.fieldAddr rfl) ?_
  refine LJ.yd rfl (Yd.loadC 0 rfl rfl rfl) ?_
  refine LJ.op rfl (OpR.buildSlice (cs := [_]) rfl rfl) ?_
  rintro _ _ ⟨b5, rfl, rfl⟩
  refine LJ.yd rfl (Yd.build (cs := [_, _]) rfl) ?_
  refine LJ.alloc ([_, _] : List Value) rfl rfl (fun b6 => ?_)
  refine LJ.store (v := .agg #[_, _]) (us := [_, _]) 5 rfl rfl rfl rfl rfl rfl rfl rfl ?_
  refine LJ.nil ?_
  refine CJ.seq ?_
  refine CJ.region ?_
  refine LJ.op rfl (OpR.buildSlice (cs := [_]) rfl rfl) ?_
  rintro _ _ ⟨b7, rfl, rfl⟩
  refine LJ.yd rfl (Yd.fieldAddr rfl) ?_
  refine LJ.yd rfl (Yd.loadC 0 rfl rfl rfl) ?_
  refine LJ.op rfl (OpR.buildSlice (cs := [_]) rfl rfl) ?_
  rintro _ _ ⟨b8, rfl, rfl⟩
  refine LJ.yd rfl (Yd.build (cs := [_, _]) rfl) ?_
  refine LJ.alloc ([_, _] : List Value) rfl rfl (fun b9 => ?_)
  refine LJ.store (v := .agg #[_, _]) (us := [_, _]) 8 rfl rfl rfl rfl rfl rfl rfl rfl ?_
  refine LJ.nil ?_
  refine CJ.seq ?_
  refine CJ.seq ?_
  refine CJ.imp1 3 rfl (fun _ h => Cel.lr (enc := encI) (k := 1) (m := 1) [_] rfl rfl rfl rfl h) ?_
  refine CJ.norm [_, _, _, _, _, _, _, _, _] rfl ?_
  refine CJ.imp1 4 rfl (fun _ h => Cel.lr (enc := encI) (k := 1) (m := 1) [_] rfl rfl rfl rfl h) ?_
  refine CJ.norm [_, _, _, _, _, _, _, _, _] rfl ?_
  refine CJ.imp1 6 rfl (fun _ h => Cel.lr (enc := encI) (k := 1) (m := 1) [_] rfl rfl rfl rfl h) ?_
  refine CJ.norm [_, _, _, _, _, _, _, _, _] rfl ?_
  refine CJ.imp1 7 rfl (fun _ h => Cel.lr (enc := encI) (k := 1) (m := 1) [_] rfl rfl rfl rfl h) ?_
  refine CJ.norm [_, _, _, _, _, _, _, _, _] rfl ?_
  refine CJ.region ?_
  refine LJ.yd rfl (Yd.fieldAddr rfl) ?_
  refine LJ.yd rfl (Yd.loadC 0 rfl rfl rfl) ?_
  refine LJ.yd rfl (Yd.len rfl) ?_
  refine LJ.yd rfl (Yd.mvI rfl) ?_
  refine LJ.nil ?_
  refine CJ.block ?_
  refine CJ.loopF [2, 3, 4, 5, 19, 20] (Nat × List Int × Option Addr × Nat × Nat × List Int × Option Addr × Nat × Nat × List Int × Option Addr × Nat × Nat × List Int × Option Addr × Nat × Nat) (fun ⟨k, E1, a1, n1, c1, E2, a2, n2, c2, E3, a3, n3, c3, E4, a4, n4, c4⟩ => k ≤ p.fl.length ∧ (n1 = E1.length ∧ n2 = E2.length ∧ n3 = E3.length ∧ n4 = E4.length) ∧ (E1.length ≤ k + 1 ∧ E2.length ≤ k + 1 ∧ E3.length ≤ k + 1 ∧ E4.length ≤ k + 1) ∧ E1 = begX (p.fl.take k) ∧ E2 = endX p.w (p.fl.take k) ∧ E3 = begY (p.fl.take k) ∧ E4 = endY p.h (p.fl.take k)) (fun ⟨k, E1, a1, n1, c1, E2, a2, n2, c2, E3, a3, n3, c3, E4, a4, n4, c4⟩ => [(21, vI k)]) (fun ⟨k, E1, a1, n1, c1, E2, a2, n2, c2, E3, a3, n3, c3, E4, a4, n4, c4⟩ => [Cel b6 81 [.slice a1 n1 c1, .slice a2 n2 c2], Cel b9 81 [.slice a3 n3 c3, .slice a4 n4 c4], LR encI 3 1 a1 c1 E1, LR encI 3 1 a2 c2 E2, LR encI 3 1 a3 c3 E3, LR encI 3 1 a4 c4 E4]) (fun ⟨k, E1, a1, n1, c1, E2, a2, n2, c2, E3, a3, n3, c3, E4, a4, n4, c4⟩ => p.fl.length - k) (0, [0], _, _, _, [p.w], _, _, _, [0], _, _, _, [p.h], _, _, _) [_, _, _] [0, 1, 2] [5, 8, 3, 4, 6, 7] rfl rfl rfl ?_ ⟨rfl, trivial⟩ ?_
  · exact ⟨by omega, ⟨rfl, rfl, rfl, rfl⟩, ⟨by simp, by simp, by simp, by simp⟩, rfl, rfl, rfl, rfl⟩
  · rintro ⟨k, E1, a1, n1, c1, E2, a2, n2, c2, E3, a3, n3, c3, E4, a4, n4, c4⟩ σ ⟨hk1, ⟨hn1, hn2, hn3, hn4⟩, ⟨hs1, hs2, hs3, hs4⟩, hE1, hE2, hE3, hE4⟩
    refine CJ.norm [_, _, _, _, _, _, _, _, _] rfl ?_
    subst hn1 hn2 hn3 hn4
    refine CJ.seq ?_
    refine CJ.region ?_
    refine LJ.splitD rfl (Yd.lss rfl rfl) (fun h22 => ?_) (fun h22 => ?_)
    · refine LJ.nil ?_
      refine CJ.seq ?_
      refine CJ.condT rfl ?_
      refine CJ.skip ?_
      refine CJ.seq ?_
      refine CJ.block ?_
      refine CJ.seq ?_
      refine CJ.region ?_
      refine LJ.idxA rfl hf rfl rfl (by omega) (by first | rfl | omega | (simp; done) | (simp; omega) | (simp [upN_len]; omega) | (simp [idxBy_len]; omega) | (simp [marks_len]; omega) | (simp [upN_len]; done) | (simp [idxBy_len]; done) | (simp [marks_len]; done) | (simp at *; omega)) (fun ib23 io23 ia23 ir23 => ?_)
      refine LJ.lgA (enc := Box.enc) (fun u => [vI u.X, vI u.Y, vI u.W, vI u.H]) (fun _ => rfl) (fun _ => rfl) ir23 rfl rfl rfl (by first | rfl | omega | (simp; done) | (simp; omega) | (simp [upN_len]; omega) | (simp [idxBy_len]; omega) | (simp [marks_len]; omega) | (simp [upN_len]; done) | (simp [idxBy_len]; done) | (simp [marks_len]; done) | (simp at *; omega)) (fun u24 hu24 => ?_)
      try simp only [Int.toNat_natCast] at hu24
      have hm24 := hm u24 (List.mem_of_getElem? hu24)
      unfold Box.mid at hm24
      obtain ⟨hb1, hb2, hb3, hb4⟩ := begX_take hu24
      refine LJ.alloc ([_, _, _, _] : List Value) rfl rfl (fun b10 => ?_)
      refine LJ.store (v := .agg #[_, _, _, _]) (us := [_, _, _, _]) 9 rfl rfl rfl rfl rfl rfl rfl rfl ?_
      refine LJ.nil ?_
      refine CJ.seq ?_
      refine CJ.region ?_
      refine LJ.yd rfl (Yd.fieldAddr rfl) ?_
      refine LJ.yd rfl (Yd.loadC 3 rfl rfl rfl) ?_
      refine LJ.yd rfl (Yd.fieldAddr rfl) ?_
      refine LJ.yd rfl (Yd.loadC 9 rfl rfl rfl) ?_
      refine LJ.yd rfl (Yd.fieldAddr rfl) ?_
      refine LJ.yd rfl (Yd.loadC 9 rfl rfl rfl) ?_
      refine LJ.yd rfl (Yd.add rfl rfl (by unfold I64; omega)) ?_
      refine LJ.op rfl (OpR.buildSlice (cs := [_]) rfl rfl) ?_
      rintro _ _ ⟨b11, rfl, rfl⟩
      refine LJ.op rfl (OpR.apT (enc := encI) [_] 5 10 rfl rfl rfl (by first | rfl | omega | (simp; done) | (simp; omega) | (simp [upN_len]; omega) | (simp [idxBy_len]; omega) | (simp [marks_len]; omega) | (simp [upN_len]; done) | (simp [idxBy_len]; done) | (simp [marks_len]; done) | (simp at *; omega)) rfl rfl rfl rfl rfl (by first | rfl | omega | (simp; done) | (simp; omega) | (simp [upN_len]; omega) | (simp [idxBy_len]; omega) | (simp [marks_len]; omega) | (simp [upN_len]; done) | (simp [idxBy_len]; done) | (simp [marks_len]; done) | (simp at *; omega))) ?_
      rintro _ _ ⟨ra33, rc33, rfl, rfl⟩
      refine LJ.norm [_, _, _, _, _, _, _, _, _, _, _] rfl ?_
      refine LJ.yd rfl (Yd.fieldAddr rfl) ?_
      refine LJ.store (v := .slice _ _ _) (us := [_, _]) 3 rfl rfl rfl rfl rfl rfl rfl rfl ?_
      refine LJ.nil ?_
      refine CJ.seq ?_
      refine CJ.region ?_
      refine LJ.yd rfl (Yd.fieldAddr rfl) ?_
      refine LJ.yd rfl (Yd.loadC 3 rfl rfl rfl) ?_
      refine LJ.yd rfl (Yd.fieldAddr rfl) ?_
      refine LJ.yd rfl (Yd.loadC 9 rfl rfl rfl) ?_
      refine LJ.op rfl (OpR.buildSlice (cs := [_]) rfl rfl) ?_
      rintro _ _ ⟨b12, rfl, rfl⟩
      refine LJ.op rfl (OpR.apT (enc := encI) [_] 6 11 rfl rfl rfl (by first | rfl | omega | (simp; done) | (simp; omega) | (simp [upN_len]; omega) | (simp [idxBy_len]; omega) | (simp [marks_len]; omega) | (simp [upN_len]; done) | (simp [idxBy_len]; done) | (simp [marks_len]; done) | (simp at *; omega)) rfl rfl rfl rfl rfl (by first | rfl | omega | (simp; done) | (simp; omega) | (simp [upN_len]; omega) | (simp [idxBy_len]; omega) | (simp [marks_len]; omega) | (simp [upN_len]; done) | (simp [idxBy_len]; done) | (simp [marks_len]; done) | (simp at *; omega))) ?_
      rintro _ _ ⟨ra40, rc40, rfl, rfl⟩
      refine LJ.norm [_, _, _, _, _, _, _, _, _, _, _, _] rfl ?_
      refine LJ.yd rfl (Yd.fieldAddr rfl) ?_
      refine LJ.store (v := .slice _ _ _) (us := [_, _]) 3 rfl rfl rfl rfl rfl rfl rfl rfl ?_
      refine LJ.nil ?_
      refine CJ.seq ?_
      refine CJ.region ?_
      refine LJ.yd rfl (Yd.fieldAddr rfl) ?_
      refine LJ.yd rfl (Yd.loadC 4 rfl rfl rfl) ?_
      refine LJ.yd rfl (Yd.fieldAddr rfl) ?_
      refine LJ.yd rfl (Yd.loadC 9 rfl rfl rfl) ?_
      refine LJ.yd rfl (Yd.fieldAddr rfl) ?_
      refine LJ.yd rfl (Yd.loadC 9 rfl rfl rfl) ?_
      refine LJ.yd rfl (Yd.add rfl rfl (by unfold I64; omega)) ?_
      refine LJ.op rfl (OpR.buildSlice (cs := [_]) rfl rfl) ?_
      rintro _ _ ⟨b13, rfl, rfl⟩
      refine LJ.op rfl (OpR.apT (enc := encI) [_] 7 12 rfl rfl rfl (by first | rfl | omega | (simp; done) | (simp; omega) | (simp [upN_len]; omega) | (simp [idxBy_len]; omega) | (simp [marks_len]; omega) | (simp [upN_len]; done) | (simp [idxBy_len]; done) | (simp [marks_len]; done) | (simp at *; omega)) rfl rfl rfl rfl rfl (by first | rfl | omega | (simp; done) | (simp; omega) | (simp [upN_len]; omega) | (simp [idxBy_len]; omega) | (simp [marks_len]; omega) | (simp [upN_len]; done) | (simp [idxBy_len]; done) | (simp [marks_len]; done) | (simp at *; omega))) ?_
      rintro _ _ ⟨ra50, rc50, rfl, rfl⟩
      refine LJ.norm [_, _, _, _, _, _, _, _, _, _, _, _, _] rfl ?_
      refine LJ.yd rfl (Yd.fieldAddr rfl) ?_
      refine LJ.store (v := .slice _ _ _) (us := [_, _]) 4 rfl rfl rfl rfl rfl rfl rfl rfl ?_
      refine LJ.nil ?_
      refine CJ.region ?_
      refine LJ.yd rfl (Yd.fieldAddr rfl) ?_
      refine LJ.yd rfl (Yd.loadC 4 rfl rfl rfl) ?_
      refine LJ.yd rfl (Yd.fieldAddr rfl) ?_
      refine LJ.yd rfl (Yd.loadC 9 rfl rfl rfl) ?_
      refine LJ.op rfl (OpR.buildSlice (cs := [_]) rfl rfl) ?_
      rintro _ _ ⟨b14, rfl, rfl⟩
      refine LJ.op rfl (OpR.apT (enc := encI) [_] 8 13 rfl rfl rfl (by first | rfl | omega | (simp; done) | (simp; omega) | (simp [upN_len]; omega) | (simp [idxBy_len]; omega) | (simp [marks_len]; omega) | (simp [upN_len]; done) | (simp [idxBy_len]; done) | (simp [marks_len]; done) | (simp at *; omega)) rfl rfl rfl rfl rfl (by first | rfl | omega | (simp; done) | (simp; omega) | (simp [upN_len]; omega) | (simp [idxBy_len]; omega) | (simp [marks_len]; omega) | (simp [upN_len]; done) | (simp [idxBy_len]; done) | (simp [marks_len]; done) | (simp at *; omega))) ?_
      rintro _ _ ⟨ra57, rc57, rfl, rfl⟩
      refine LJ.norm [_, _, _, _, _, _, _, _, _, _, _, _, _, _] rfl ?_
      refine LJ.yd rfl (Yd.fieldAddr rfl) ?_
      refine LJ.store (v := .slice _ _ _) (us := [_, _]) 4 rfl rfl rfl rfl rfl rfl rfl rfl ?_
      refine LJ.nil ?_
      refine CJ.region ?_
      refine LJ.yd rfl (Yd.add rfl rfl (by unfold I64; omega)) ?_
      refine LJ.yd rfl (Yd.mvI rfl) ?_
      refine LJ.nil ?_
      refine ⟨(k + 1, _, _, _, _, _, _, _, _, _, _, _, _, _, _, _, _), ?_, ⟨rfl, rfl, rfl, rfl, rfl, rfl, trivial⟩, ⟨rfl, trivial⟩, Ent.pick [0, 1, 2, 3, 4, 5, 6, 7, 8] [9, 10, 11, 12, 13] rfl, ?_⟩
      · refine ⟨by omega, ?_⟩
        exact ⟨⟨by simp, by simp, by simp, by simp⟩, ⟨by simp; omega, by simp; omega, by simp; omega, by simp; omega⟩, by rw [hb1, hE1], by rw [hb3, hE2], by rw [hb2, hE3], by rw [hb4, hE4]⟩
      · first | omega | (dsimp only; omega) | (simp only []; omega)
    · refine LJ.nil ?_
      refine CJ.seq ?_
      refine CJ.condF rfl ?_
      refine CJ.exit ?_
      refine CJ.seq ?_
      refine CJ.regionD [0, 3, 4, 5, 6, 7, 8] [1, 2] (by kernel_rfl) rfl ?_
      refine DJ.norm [_, _, _, _, _, _, _] [_, _] rfl rfl ?_
      refine DJ.yd 0 rfl (by kernel_rfl) (by kernel_rfl) (by kernel_rfl) rfl rfl (Yd.loadG (us := [_, _]) 1 rfl rfl rfl rfl) ?_
      refine DJ.yd 1 rfl (by kernel_rfl) (by kernel_rfl) (by kernel_rfl) rfl rfl (Yd.loadG (us := [_, _]) 2 rfl rfl rfl rfl) ?_
      refine DJ.one (i := 2) (by kernel_rfl) ?_
      refine DO.store (v := .agg #[_, _]) (us := [_, _]) 0 rfl rfl rfl rfl rfl rfl rfl rfl rfl rfl ?_
      refine DJ.one (i := 3) (by kernel_rfl) ?_
      refine DO.store (v := .agg #[_, _]) (us := [_, _]) 1 rfl rfl rfl rfl rfl rfl rfl rfl rfl rfl ?_
      refine DJ.done (by kernel_rfl) ?_
      refine CJ.ret ?_
      rw [List.take_of_length_le (by omega)] at hE1 hE2 hE3 hE4
      subst hE1 hE2 hE3 hE4
      exact Fin.R [_, _, _, _] (Res.two (ResV.cell (us := [_, _]) 7 rfl rfl rfl rfl) (ResV.cell (us := [_, _]) 8 rfl rfl rfl rfl)) ⟨_, _, _, _, _, _, _, _, rfl, rfl⟩ (Ent.pick [3, 4, 5, 6] [0, 1, 2, 7, 8] rfl)
theorem LargestClearI_ok {A : Amb} {p : Piece} {v : Value} (hf : RdL Box.enc 4 A.h v p.fl) : Ctr Try.prog 16 #[.agg #[vI p.l, vI p.w, vI p.h, v]] A [] (Val (.tuple #[agB (lgP p), .bool (decide (0 < (lgP p).W))])) := by
  obtain ⟨fa, fc, rfl, hfb, hf⟩ := hf.un
  refine Ctr.body (args := [_]) Try.func16 rfl Try.ntmps16 Try.results16 (by simp) ?_
  refine CJ.seq ?_
  refine CJ.region ?_
  refine LJ.boxG (vs := [_, _, _, _]) rfl rfl (fun b1 => ?_)
  refine LJ.alloc ([_, _, _, _] : List Value) rfl rfl (fun b2 => ?_)
  refine LJ.yd rfl (Yd.asB rfl) ?_
  refine LJ.nil ?_
  refine CJ.seq ?_
  refine CJ.seq ?_
  refine CJ.region ?_
  refine LJ.yd rfl (Yd.loadG (us := [_, _, _, _]) 0 rfl rfl rfl rfl) ?_
  refine LJ.callB rfl (fun k hk dk => ValidPieceI_ok hf.up) (fun h17 => ?_) (fun h17 => ?_)
  · refine LJ.yd rfl (Yd.not rfl) ?_
    refine LJ.nil ?_
    refine CJ.condF rfl ?_
    refine CJ.skip ?_
    refine CJ.seq ?_
    refine CJ.region ?_
    refine LJ.alloc ([_, _, _, _] : List Value) rfl rfl (fun b3 => ?_)
    refine LJ.nil ?_
    refine CJ.seq ?_
    obtain ⟨hed1, hed2, hed3, hed4⟩ := edge_b h17
    have hfl6 := (pcOk_iff.1 h17).2.2.2.1
    have hL1 : (begX p.fl).length ≤ 7 := by simp [begX]; omega
    have hL2 : (endX p.w p.fl).length ≤ 7 := by simp [endX]; omega
    have hL3 : (begY p.fl).length ≤ 7 := by simp [begY]; omega
    have hL4 : (endY p.h p.fl).length ≤ 7 := by simp [endY]; omega
    refine CJ.region ?_
    refine LJ.yd rfl (Yd.loadG (us := [_, _, _, _]) 0 rfl rfl rfl rfl) ?_
    refine LJ.call0 rfl (fun k hk dk => edgesOf_ok hf.up (pc_mid h17) (by omega)) ?_
    rintro _ _ ⟨a1, c1, a2, c2, a3, c3, a4, c4, rfl, rfl⟩
    refine LJ.norm [_, _, _, _, _, _, _] rfl ?_
    refine LJ.yd rfl (Yd.mvU rfl) ?_
    refine LJ.yd rfl (Yd.extract rfl rfl) ?_
    refine LJ.yd rfl (Yd.extract rfl rfl) ?_
    refine LJ.alloc ([_, _] : List Value) rfl rfl (fun b4 => ?_)
    refine LJ.alloc ([_, _] : List Value) rfl rfl (fun b5 => ?_)
    refine LJ.store (v := .agg #[_, _]) (us := [_, _]) 7 rfl rfl rfl rfl rfl rfl rfl rfl ?_
    refine LJ.store (v := .agg #[_, _]) (us := [_, _]) 8 rfl rfl rfl rfl rfl rfl rfl rfl ?_
    refine LJ.nil ?_
    refine CJ.seq ?_
    refine CJ.seq ?_
    refine CJ.amb (perm_pickF _ [3] [0, 1, 2, 4, 5, 6, 7, 8] rfl) (fun mxb wxb dxb => ?_)
    refine CJ.norm [_, _, _, _, _, _, _, _] rfl ?_
    have hxb := Row.toA (enc := encI) wxb dxb (by simp [begX]; omega)
    replace hf := lift2 hf hxb
    refine CJ.amb (perm_pickF _ [3] [0, 1, 2, 4, 5, 6, 7] rfl) (fun mxe wxe dxe => ?_)
    refine CJ.norm [_, _, _, _, _, _, _] rfl ?_
    have hxe := Row.toA (enc := encI) wxe dxe (by simp [endX]; omega)
    replace hf := lift2 hf hxe
    replace hxb := lift2 hxb hxe
    refine CJ.amb (perm_pickF _ [3] [0, 1, 2, 4, 5, 6] rfl) (fun myb wyb dyb => ?_)
    refine CJ.norm [_, _, _, _, _, _] rfl ?_
    have hyb := Row.toA (enc := encI) wyb dyb (by simp [begY]; omega)
    replace hf := lift2 hf hyb
    replace hxb := lift2 hxb hyb
    replace hxe := lift2 hxe hyb
    refine CJ.amb (perm_pickF _ [3] [0, 1, 2, 4, 5] rfl) (fun mye wye dye => ?_)
    refine CJ.norm [_, _, _, _, _] rfl ?_
    have hye := Row.toA (enc := encI) wye dye (by simp [endY]; omega)
    replace hf := lift2 hf hye
    replace hxb := lift2 hxb hye
    replace hxe := lift2 hxe hye
    replace hyb := lift2 hyb hye
    refine CJ.region ?_
    refine LJ.yd rfl (Yd.fieldAddr rfl) ?_
    refine LJ.yd rfl (Yd.loadC 4 rfl rfl rfl) ?_
    refine LJ.yd rfl (Yd.len rfl) ?_
    refine LJ.yd rfl (Yd.mvI rfl) ?_
    refine LJ.nil ?_
    refine CJ.block ?_
    refine CJ.loopF [1, 2, 3, 4, 5, 6, 26, 27] (Nat × Box) (fun ⟨k1, o⟩ => k1 ≤ (begY p.fl).length ∧ Fd o ∧ ((begY p.fl).drop k1).foldl (g1 (clrG p.w p.h p.fl) (begX p.fl) (endX p.w p.fl) (endY p.h p.fl)) o = lgP p) (fun ⟨k1, o⟩ => [(28, vI k1)]) (fun ⟨k1, o⟩ => [Cel b3 33 [vI o.X, vI o.Y, vI o.W, vI o.H]]) (fun ⟨k1, o⟩ => (begY p.fl).length - k1) (0, zeroB) [_, _, _, _] [0, 1, 3, 4] [2] rfl rfl rfl ?_ ⟨rfl, trivial⟩ ?_
    · exact ⟨by omega, Fd.zero, lgP_edges h17⟩
    · rintro ⟨k1, o⟩ σ ⟨hk1, hF1, hi1⟩
      refine CJ.norm [_, _, _, _, _] rfl ?_
      refine CJ.seq ?_
      refine CJ.region ?_
      refine LJ.splitD rfl (Yd.lss rfl rfl) (fun h29 => ?_) (fun h29 => ?_)
      · refine LJ.nil ?_
        refine CJ.seq ?_
        refine CJ.condT rfl ?_
        refine CJ.skip ?_
        refine CJ.seq ?_
        refine CJ.block ?_
        refine CJ.seq ?_
        refine CJ.region ?_
        refine LJ.idxA rfl hyb rfl rfl (by omega) (by first | rfl | omega | (simp; done) | (simp; omega) | (simp [upN_len]; omega) | (simp [idxBy_len]; omega) | (simp [marks_len]; omega) | (simp [upN_len]; done) | (simp [idxBy_len]; done) | (simp [marks_len]; done) | (simp at *; omega)) (fun ib30 io30 ia30 ir30 => ?_)
        refine LJ.ldA 0 (fun u => vI u) (fun _ => rfl) ir30 rfl rfl rfl (by first | rfl | omega | (simp; done) | (simp; omega) | (simp [upN_len]; omega) | (simp [idxBy_len]; omega) | (simp [marks_len]; omega) | (simp [upN_len]; done) | (simp [idxBy_len]; done) | (simp [marks_len]; done) | (simp at *; omega)) (fun u31 hu31 => ?_)
        try simp only [Int.toNat_natCast] at hu31
        have hf31 := hed3 u31 (List.mem_of_getElem? hu31)
        rw [dropC hu31, List.foldl_cons] at hi1
        refine LJ.yd rfl (Yd.asI rfl) ?_
        refine LJ.nil ?_
        refine CJ.seq ?_
        refine CJ.region ?_
        refine LJ.yd rfl (Yd.fieldAddr rfl) ?_
        refine LJ.yd rfl (Yd.loadC 3 rfl rfl rfl) ?_
        refine LJ.yd rfl (Yd.len rfl) ?_
        refine LJ.yd rfl (Yd.mvI rfl) ?_
        refine LJ.nil ?_
        refine CJ.block ?_
        refine CJ.loopF [1, 2, 3, 4, 5, 6, 8, 26, 27, 28, 29, 30, 31, 32, 33, 34] (Nat × Box) (fun ⟨k2, o2⟩ => k2 ≤ (endY p.h p.fl).length ∧ Fd o2 ∧ ((endY p.h p.fl).drop k2).foldl (g2 (clrG p.w p.h p.fl) (begX p.fl) (endX p.w p.fl) u31) o2 = g1 (clrG p.w p.h p.fl) (begX p.fl) (endX p.w p.fl) (endY p.h p.fl) o u31) (fun ⟨k2, o2⟩ => [(35, vI k2)]) (fun ⟨k2, o2⟩ => [Cel b3 33 [vI o2.X, vI o2.Y, vI o2.W, vI o2.H]]) (fun ⟨k2, o2⟩ => (endY p.h p.fl).length - k2) (0, o) [_, _, _, _] [0, 1, 2, 3] [4] rfl rfl rfl ?_ ⟨rfl, trivial⟩ ?_
        · exact ⟨by omega, hF1, rfl⟩
        · rintro ⟨k2, o2⟩ σ ⟨hk2, hF2, hi2⟩
          refine CJ.norm [_, _, _, _, _] rfl ?_
          refine CJ.seq ?_
          refine CJ.region ?_
          refine LJ.splitD rfl (Yd.lss rfl rfl) (fun h36 => ?_) (fun h36 => ?_)
          · refine LJ.nil ?_
            refine CJ.seq ?_
            refine CJ.condT rfl ?_
            refine CJ.skip ?_
            refine CJ.seq ?_
            refine CJ.block ?_
            refine CJ.seq ?_
            refine CJ.region ?_
            refine LJ.idxA rfl hye rfl rfl (by omega) (by first | rfl | omega | (simp; done) | (simp; omega) | (simp [upN_len]; omega) | (simp [idxBy_len]; omega) | (simp [marks_len]; omega) | (simp [upN_len]; done) | (simp [idxBy_len]; done) | (simp [marks_len]; done) | (simp at *; omega)) (fun ib37 io37 ia37 ir37 => ?_)
            refine LJ.ldA 0 (fun u => vI u) (fun _ => rfl) ir37 rfl rfl rfl (by first | rfl | omega | (simp; done) | (simp; omega) | (simp [upN_len]; omega) | (simp [idxBy_len]; omega) | (simp [marks_len]; omega) | (simp [upN_len]; done) | (simp [idxBy_len]; done) | (simp [marks_len]; done) | (simp at *; omega)) (fun u38 hu38 => ?_)
            try simp only [Int.toNat_natCast] at hu38
            have hf38 := hed4 u38 (List.mem_of_getElem? hu38)
            rw [dropC hu38, List.foldl_cons] at hi2
            refine LJ.yd rfl (Yd.asI rfl) ?_
            refine LJ.nil ?_
            refine CJ.seq ?_
            refine CJ.region ?_
            refine LJ.yd rfl (Yd.fieldAddr rfl) ?_
            refine LJ.yd rfl (Yd.loadC 2 rfl rfl rfl) ?_
            refine LJ.yd rfl (Yd.len rfl) ?_
            refine LJ.yd rfl (Yd.mvI rfl) ?_
            refine LJ.nil ?_
            refine CJ.block ?_
            refine CJ.loopF [1, 2, 3, 4, 5, 6, 8, 10, 26, 27, 28, 29, 30, 31, 32, 33, 34, 35, 36, 37, 38, 39, 40, 41] (Nat × Box) (fun ⟨k3, o3⟩ => k3 ≤ (begX p.fl).length ∧ Fd o3 ∧ ((begX p.fl).drop k3).foldl (g3 (clrG p.w p.h p.fl) (endX p.w p.fl) u31 u38) o3 = g2 (clrG p.w p.h p.fl) (begX p.fl) (endX p.w p.fl) u31 o2 u38) (fun ⟨k3, o3⟩ => [(42, vI k3)]) (fun ⟨k3, o3⟩ => [Cel b3 33 [vI o3.X, vI o3.Y, vI o3.W, vI o3.H]]) (fun ⟨k3, o3⟩ => (begX p.fl).length - k3) (0, o2) [_, _, _, _] [0, 1, 2, 3] [4] rfl rfl rfl ?_ ⟨rfl, trivial⟩ ?_
            · exact ⟨by omega, hF2, rfl⟩
            · rintro ⟨k3, o3⟩ σ ⟨hk3, hF3, hi3⟩
              refine CJ.norm [_, _, _, _, _] rfl ?_
              refine CJ.seq ?_
              refine CJ.region ?_
              refine LJ.splitD rfl (Yd.lss rfl rfl) (fun h43 => ?_) (fun h43 => ?_)
              · refine LJ.nil ?_
                refine CJ.seq ?_
                refine CJ.condT rfl ?_
                refine CJ.skip ?_
                refine CJ.seq ?_
                refine CJ.block ?_
                refine CJ.seq ?_
                refine CJ.region ?_
                refine LJ.idxA rfl hxb rfl rfl (by omega) (by first | rfl | omega | (simp; done) | (simp; omega) | (simp [upN_len]; omega) | (simp [idxBy_len]; omega) | (simp [marks_len]; omega) | (simp [upN_len]; done) | (simp [idxBy_len]; done) | (simp [marks_len]; done) | (simp at *; omega)) (fun ib44 io44 ia44 ir44 => ?_)
                refine LJ.ldA 0 (fun u => vI u) (fun _ => rfl) ir44 rfl rfl rfl (by first | rfl | omega | (simp; done) | (simp; omega) | (simp [upN_len]; omega) | (simp [idxBy_len]; omega) | (simp [marks_len]; omega) | (simp [upN_len]; done) | (simp [idxBy_len]; done) | (simp [marks_len]; done) | (simp at *; omega)) (fun u45 hu45 => ?_)
                try simp only [Int.toNat_natCast] at hu45
                have hf45 := hed1 u45 (List.mem_of_getElem? hu45)
                rw [dropC hu45, List.foldl_cons] at hi3
                refine LJ.yd rfl (Yd.asI rfl) ?_
                refine LJ.nil ?_
                refine CJ.seq ?_
                refine CJ.region ?_
                refine LJ.yd rfl (Yd.fieldAddr rfl) ?_
                refine LJ.yd rfl (Yd.loadC 2 rfl rfl rfl) ?_
                refine LJ.yd rfl (Yd.len rfl) ?_
                refine LJ.yd rfl (Yd.mvI rfl) ?_
                refine LJ.nil ?_
                refine CJ.block ?_
                refine CJ.loopF [1, 2, 3, 4, 5, 6, 8, 10, 12, 26, 27, 28, 29, 30, 31, 32, 33, 34, 35, 36, 37, 38, 39, 40, 41, 42, 43, 44, 45, 46, 47, 48] (Nat × Box) (fun ⟨k4, o4⟩ => k4 ≤ (endX p.w p.fl).length ∧ Fd o4 ∧ ((endX p.w p.fl).drop k4).foldl (g4 (clrG p.w p.h p.fl) u31 u38 u45) o4 = g3 (clrG p.w p.h p.fl) (endX p.w p.fl) u31 u38 o3 u45) (fun ⟨k4, o4⟩ => [(49, vI k4)]) (fun ⟨k4, o4⟩ => [Cel b3 33 [vI o4.X, vI o4.Y, vI o4.W, vI o4.H]]) (fun ⟨k4, o4⟩ => (endX p.w p.fl).length - k4) (0, o3) [_, _, _, _] [0, 1, 2, 3] [4] rfl rfl rfl ?_ ⟨rfl, trivial⟩ ?_
                · exact ⟨by omega, hF3, rfl⟩
                · rintro ⟨k4, o4⟩ σ ⟨hk4, hF4, hi4⟩
                  refine CJ.norm [_, _, _, _, _] rfl ?_
                  refine CJ.seq ?_
                  refine CJ.region ?_
                  refine LJ.splitD rfl (Yd.lss rfl rfl) (fun h50 => ?_) (fun h50 => ?_)
                  · refine LJ.nil ?_
                    refine CJ.seq ?_
                    refine CJ.condT rfl ?_
                    refine CJ.skip ?_
                    refine CJ.seq ?_
                    refine CJ.block ?_
                    refine CJ.seq ?_
                    refine CJ.region ?_
                    refine LJ.idxA rfl hxe rfl rfl (by omega) (by first | rfl | omega | (simp; done) | (simp; omega) | (simp [upN_len]; omega) | (simp [idxBy_len]; omega) | (simp [marks_len]; omega) | (simp [upN_len]; done) | (simp [idxBy_len]; done) | (simp [marks_len]; done) | (simp at *; omega)) (fun ib51 io51 ia51 ir51 => ?_)
                    refine LJ.ldA 0 (fun u => vI u) (fun _ => rfl) ir51 rfl rfl rfl (by first | rfl | omega | (simp; done) | (simp; omega) | (simp [upN_len]; omega) | (simp [idxBy_len]; omega) | (simp [marks_len]; omega) | (simp [upN_len]; done) | (simp [idxBy_len]; done) | (simp [marks_len]; done) | (simp at *; omega)) (fun u52 hu52 => ?_)
                    try simp only [Int.toNat_natCast] at hu52
                    have hf52 := hed2 u52 (List.mem_of_getElem? hu52)
                    rw [dropC hu52, List.foldl_cons] at hi4
                    refine LJ.yd rfl (Yd.asI rfl) ?_
                    refine LJ.nil ?_
                    refine CJ.seq ?_
                    refine CJ.region ?_
                    refine LJ.yd rfl (Yd.mvI rfl) ?_
                    refine LJ.yd rfl (Yd.mvI rfl) ?_
                    refine LJ.yd rfl (Yd.mvI rfl) ?_
                    refine LJ.yd rfl (Yd.mvI rfl) ?_
                    refine LJ.yd rfl (Yd.sub rfl rfl (by unfold I64; omega)) ?_
                    refine LJ.yd rfl (Yd.mvI rfl) ?_
                    refine LJ.yd rfl (Yd.mvI rfl) ?_
                    refine LJ.yd rfl (Yd.sub rfl rfl (by unfold I64; omega)) ?_
                    refine LJ.yd rfl (Yd.build (cs := [_, _, _, _]) rfl) ?_
                    refine LJ.alloc ([_, _, _, _] : List Value) rfl rfl (fun b6 => ?_)
                    refine LJ.store (v := .agg #[_, _, _, _]) (us := [_, _, _, _]) 5 rfl rfl rfl rfl rfl rfl rfl rfl ?_
                    refine LJ.nil ?_
                    refine CJ.seq ?_
                    refine CJ.region ?_
                    refine LJ.yd rfl (Yd.loadG (us := [_, _, _, _]) 0 rfl rfl rfl rfl) ?_
                    refine LJ.yd rfl (Yd.loadG (us := [_, _, _, _]) 5 rfl rfl rfl rfl) ?_
                    refine LJ.callB rfl (fun k hk dk => ClearAtI_ok hf.up ⟨u45, u31, u52 - u45, u38 - u31⟩) (fun h64 => ?_) (fun h64 => ?_)
                    · refine LJ.yd rfl (Yd.mvB rfl) ?_
                      refine LJ.gT rfl ?_
                      refine LJ.yd rfl (Yd.loadG (us := [_, _, _, _]) 5 rfl rfl rfl rfl) ?_
                      refine LJ.gT rfl ?_
                      refine LJ.yd rfl (Yd.loadG (us := [_, _, _, _]) 4 rfl rfl rfl rfl) ?_
                      refine LJ.gT rfl ?_
                      refine LJ.callB rfl (fun k hk dk => betterClear_ok _ ⟨u45, u31, u52 - u45, u38 - u31⟩ o4 (bOk_Fd (clrG_ok h17 (caV_G h17 ▸ h64))).area hF4.area) (fun h68 => ?_) (fun h68 => ?_)
                      · refine LJ.yd rfl (Yd.pickTB rfl rfl) ?_
                        refine LJ.nil ?_
                        refine CJ.condT rfl ?_
                        refine CJ.region ?_
                        refine LJ.yd rfl (Yd.loadG (us := [_, _, _, _]) 5 rfl rfl rfl rfl) ?_
                        refine LJ.store (v := .agg #[_, _, _, _]) (us := [_, _, _, _]) 4 rfl rfl rfl rfl rfl rfl rfl rfl ?_
                        refine LJ.nil ?_
                        refine CJ.region ?_
                        refine LJ.yd rfl (Yd.add rfl rfl (by unfold I64; omega)) ?_
                        refine LJ.yd rfl (Yd.mvI rfl) ?_
                        refine LJ.nil ?_
                        refine ⟨(k4 + 1, (⟨u45, u31, u52 - u45, u38 - u31⟩ : Box)), ?_, ⟨rfl, rfl, rfl, rfl, rfl, rfl, rfl, rfl, rfl, rfl, rfl, rfl, rfl, rfl, rfl, rfl, rfl, rfl, rfl, rfl, rfl, rfl, rfl, rfl, rfl, rfl, rfl, rfl, rfl, rfl, rfl, rfl, trivial⟩, ⟨rfl, trivial⟩, Ent.pick [0, 1, 2, 3, 4] [5] rfl, ?_⟩
                        · refine ⟨by omega, ?_⟩
                          rw [caV_G h17] at h64
                          rw [show g4 (clrG p.w p.h p.fl) u31 u38 u45 o4 u52 = ⟨u45, u31, u52 - u45, u38 - u31⟩ from stp_T h64 h68] at hi4
                          exact ⟨bOk_Fd (clrG_ok h17 h64), hi4⟩
                        · first | omega | (dsimp only; omega) | (simp only []; omega)
                      · refine LJ.yd rfl (Yd.pickTB rfl rfl) ?_
                        refine LJ.nil ?_
                        refine CJ.condF rfl ?_
                        refine CJ.skip ?_
                        refine CJ.region ?_
                        refine LJ.yd rfl (Yd.add rfl rfl (by unfold I64; omega)) ?_
                        refine LJ.yd rfl (Yd.mvI rfl) ?_
                        refine LJ.nil ?_
                        refine ⟨(k4 + 1, o4), ?_, ⟨rfl, rfl, rfl, rfl, rfl, rfl, rfl, rfl, rfl, rfl, rfl, rfl, rfl, rfl, rfl, rfl, rfl, rfl, rfl, rfl, rfl, rfl, rfl, rfl, rfl, rfl, rfl, rfl, rfl, rfl, rfl, rfl, trivial⟩, ⟨rfl, trivial⟩, Ent.pick [0, 1, 2, 3, 4] [5] rfl, ?_⟩
                        · refine ⟨by omega, ?_⟩
                          rw [caV_G h17] at h64
                          rw [show g4 (clrG p.w p.h p.fl) u31 u38 u45 o4 u52 = o4 from stp_F (by first | exact .inl h64 | exact .inr h68)] at hi4
                          exact ⟨hF4, hi4⟩
                        · first | omega | (dsimp only; omega) | (simp only []; omega)
                    · refine LJ.yd rfl (Yd.mvB rfl) ?_
                      refine LJ.gF rfl rfl ?_
                      refine LJ.gF rfl rfl ?_
                      refine LJ.gF rfl rfl ?_
                      refine LJ.yd rfl (Yd.pickFB rfl rfl) ?_
                      refine LJ.nil ?_
                      refine CJ.condF rfl ?_
                      refine CJ.skip ?_
                      refine CJ.region ?_
                      refine LJ.yd rfl (Yd.add rfl rfl (by unfold I64; omega)) ?_
                      refine LJ.yd rfl (Yd.mvI rfl) ?_
                      refine LJ.nil ?_
                      refine ⟨(k4 + 1, o4), ?_, ⟨rfl, rfl, rfl, rfl, rfl, rfl, rfl, rfl, rfl, rfl, rfl, rfl, rfl, rfl, rfl, rfl, rfl, rfl, rfl, rfl, rfl, rfl, rfl, rfl, rfl, rfl, rfl, rfl, rfl, rfl, rfl, rfl, trivial⟩, ⟨rfl, trivial⟩, Ent.pick [0, 1, 2, 3, 4] [5] rfl, ?_⟩
                      · refine ⟨by omega, ?_⟩
                        rw [caV_G h17] at h64
                        rw [show g4 (clrG p.w p.h p.fl) u31 u38 u45 o4 u52 = o4 from stp_F (by first | exact .inl h64 | exact .inr h68)] at hi4
                        exact ⟨hF4, hi4⟩
                      · first | omega | (dsimp only; omega) | (simp only []; omega)
                  · refine LJ.nil ?_
                    refine CJ.seq ?_
                    refine CJ.condF rfl ?_
                    refine CJ.exit ?_
                    refine CJ.region ?_
                    refine LJ.yd rfl (Yd.add rfl rfl (by unfold I64; omega)) ?_
                    refine LJ.yd rfl (Yd.mvI rfl) ?_
                    refine LJ.nil ?_
                    refine ⟨(k3 + 1, o4), ?_, ⟨rfl, rfl, rfl, rfl, rfl, rfl, rfl, rfl, rfl, rfl, rfl, rfl, rfl, rfl, rfl, rfl, rfl, rfl, rfl, rfl, rfl, rfl, rfl, rfl, trivial⟩, ⟨rfl, trivial⟩, Ent.refl _, ?_⟩
                    · refine ⟨by omega, ?_⟩
                      rw [List.drop_of_length_le (by omega), List.foldl_nil] at hi4
                      rw [← hi4] at hi3
                      exact ⟨hF4, hi3⟩
                    · first | omega | (dsimp only; omega) | (simp only []; omega)
              · refine LJ.nil ?_
                refine CJ.seq ?_
                refine CJ.condF rfl ?_
                refine CJ.exit ?_
                refine CJ.region ?_
                refine LJ.yd rfl (Yd.add rfl rfl (by unfold I64; omega)) ?_
                refine LJ.yd rfl (Yd.mvI rfl) ?_
                refine LJ.nil ?_
                refine ⟨(k2 + 1, o3), ?_, ⟨rfl, rfl, rfl, rfl, rfl, rfl, rfl, rfl, rfl, rfl, rfl, rfl, rfl, rfl, rfl, rfl, trivial⟩, ⟨rfl, trivial⟩, Ent.refl _, ?_⟩
                · refine ⟨by omega, ?_⟩
                  rw [List.drop_of_length_le (by omega), List.foldl_nil] at hi3
                  rw [← hi3] at hi2
                  exact ⟨hF3, hi2⟩
                · first | omega | (dsimp only; omega) | (simp only []; omega)
          · refine LJ.nil ?_
            refine CJ.seq ?_
            refine CJ.condF rfl ?_
            refine CJ.exit ?_
            refine CJ.region ?_
            refine LJ.yd rfl (Yd.add rfl rfl (by unfold I64; omega)) ?_
            refine LJ.yd rfl (Yd.mvI rfl) ?_
            refine LJ.nil ?_
            refine ⟨(k1 + 1, o2), ?_, ⟨rfl, rfl, rfl, rfl, rfl, rfl, rfl, rfl, trivial⟩, ⟨rfl, trivial⟩, Ent.refl _, ?_⟩
            · refine ⟨by omega, ?_⟩
              rw [List.drop_of_length_le (by omega), List.foldl_nil] at hi2
              rw [← hi2] at hi1
              exact ⟨hF2, hi1⟩
            · first | omega | (dsimp only; omega) | (simp only []; omega)
      · refine LJ.nil ?_
        refine CJ.seq ?_
        refine CJ.condF rfl ?_
        refine CJ.exit ?_
        refine CJ.seq ?_
        refine CJ.regionD [0, 2, 3, 4] [1] (by kernel_rfl) rfl ?_
        refine DJ.norm [_, _, _, _] [_] rfl rfl ?_
        refine DJ.yd 0 rfl (by kernel_rfl) (by kernel_rfl) (by kernel_rfl) rfl rfl (Yd.loadG (us := [_, _, _, _]) 3 rfl rfl rfl rfl) ?_
        refine DJ.yd 1 rfl (by kernel_rfl) (by kernel_rfl) (by kernel_rfl) rfl rfl (Yd.fieldAddr rfl) ?_
        refine DJ.yd 2 rfl (by kernel_rfl) (by kernel_rfl) (by kernel_rfl) rfl rfl (Yd.loadC 3 rfl rfl rfl) ?_
        refine DJ.yd 3 rfl (by kernel_rfl) (by kernel_rfl) (by kernel_rfl) rfl rfl (Yd.gtr rfl rfl) ?_
        refine DJ.one (i := 4) (by kernel_rfl) ?_
        refine DO.store (v := .agg #[_, _, _, _]) (us := [_, _, _, _]) 0 rfl rfl rfl rfl rfl rfl rfl rfl rfl rfl ?_
        refine DJ.yd 5 rfl (by kernel_rfl) (by kernel_rfl) (by kernel_rfl) rfl rfl (Yd.asB rfl) ?_
        refine DJ.done (by kernel_rfl) ?_
        refine CJ.ret ?_
        refine Fin.V (Res.two (ResV.cell (us := [_, _, _, _]) 4 rfl rfl rfl rfl) (ResV.tmp (v := .bool _) rfl)) ?_
        first
          | (rw [lgP_F h17]; rfl)
          | (rw [List.drop_of_length_le (by omega), List.foldl_nil] at hi1; rw [← hi1])
  · refine LJ.yd rfl (Yd.not rfl) ?_
    refine LJ.nil ?_
    refine CJ.condT rfl ?_
    refine CJ.seq ?_
    refine CJ.region ?_
    refine LJ.yd rfl (Yd.build (cs := [_, _, _, _]) rfl) ?_
    refine LJ.store (v := .agg #[_, _, _, _]) (us := [_, _, _, _]) 1 rfl rfl rfl rfl rfl rfl rfl rfl ?_
    refine LJ.yd rfl (Yd.asB rfl) ?_
    refine LJ.nil ?_
    refine CJ.ret ?_
    refine Fin.V (Res.two (ResV.cell (us := [_, _, _, _]) 1 rfl rfl rfl rfl) (ResV.tmp (v := .bool false) rfl)) ?_
    first
      | (rw [lgP_F h17]; rfl)
      | (rw [List.drop_of_length_le (by omega), List.foldl_nil] at hi1; rw [← hi1])
end Go.Proofs.Ytnfnidplhkfamaa
