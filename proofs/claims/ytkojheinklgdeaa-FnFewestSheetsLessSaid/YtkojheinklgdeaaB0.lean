/-
  First fit, plainly: falling orders, the loads as a function of the lengths alone.
-/
import Derived.Test.YtkojheinklgdeaaM1
namespace Go.Proofs.Ytkojheinklgdeaa
open Go

theorem mapUp_get {f : Int → Int} {n i : Nat} (h : i < n) : ((upN n).map f)[i]? = some (f i) := by simp [upN, h]
theorem mapUp_len (f : Int → Int) (n : Nat) : ((upN n).map f).length = n := by simp [upN_len]
theorem ld_succ (o l : List Int) (k : Nat) (b : Int) : ld o l (upN (k + 1)) b = ld o l (upN k) b + if gt o k = b then gt l k else 0 := by
  rw [ld, upN_succ, sumf_append]; simp only [sumf]; rw [Int.add_zero]; rfl
def Dn (a b : Int) : Prop := b ≤ a
theorem ins_up {lt : Int → Int → Bool} {key : Int → Int} (hlt : ∀ x y, lt x y = true ↔ key y < key x) {x : Int} : ∀ {r : List Int}, r.Pairwise (fun a b => key a ≤ key b) → (ins lt x r).Pairwise (fun a b => key a ≤ key b)
  | [], _ => by simp [ins]
  | y :: r, h => by
    rw [List.pairwise_cons] at h
    simp only [ins]
    split
    · rename_i hxy
      rw [List.pairwise_cons]
      refine ⟨fun z hz => ?_, ins_up hlt h.2⟩
      rcases ins_mem.1 hz with rfl | hz
      · have := (hlt _ _).1 hxy; omega
      · exact h.1 z hz
    · rename_i hxy
      rw [List.pairwise_cons, List.pairwise_cons]
      have : ¬ key y < key x := fun e => hxy ((hlt _ _).2 e)
      refine ⟨fun z hz => ?_, h⟩
      rcases List.mem_cons.1 hz with rfl | hz
      · omega
      · have := h.1 z hz; omega
theorem insAll_dn {lt : Int → Int → Bool} {key : Int → Int} (hlt : ∀ x y, lt x y = true ↔ key y < key x) : ∀ {r p : List Int}, p.reverse.Pairwise (fun a b => key a ≤ key b) → (insAll lt p r).reverse.Pairwise (fun a b => key a ≤ key b)
  | [], p, h => h
  | x :: r, p, h => by
    rw [insAll]
    refine insAll_dn hlt ?_
    rw [List.reverse_reverse]
    exact ins_up hlt h
theorem falling_dn (l : List Int) : ((idxBy (ltF l) l.length).map (gt l)).Pairwise Dn := by
  have h := insAll_dn (lt := ltF l) (key := gt l) (fun x y => by simp [ltF]) (r := upN l.length) (p := []) (by simp)
  rw [List.pairwise_reverse] at h
  rw [List.pairwise_map]
  exact h
theorem map_gt (l : List Int) : (upN l.length).map (gt l) = l := by
  apply List.ext_getElem?
  intro i
  by_cases h : i < l.length
  · obtain ⟨u, hu⟩ := someC h
    rw [mapUp_get h, gtC' hu, hu]
  · rw [List.getElem?_eq_none (by rw [mapUp_len]; omega), List.getElem?_eq_none (by omega)]
theorem falling_eq {l d : List Int} (hd : d.Pairwise Dn) (hp : d.Perm l) : (idxBy (ltF l) l.length).map (gt l) = d := by
  refine List.Perm.eq_of_pairwise (le := Dn) (fun a b _ _ h1 h2 => ?_) (falling_dn l) hd ?_
  · unfold Dn at h1 h2; omega
  · have := (idxBy_perm (ltF l) l.length).map (gt l)
    rw [map_gt] at this
    exact this.trans hp.symm
def ffV (bar : Int) : List Int → List Int → List Int
  | [], s => s
  | x :: r, s => ffV bar r (fS x bar s)
theorem ffGo_V (l : List Int) (bar : Int) : ∀ (r s o : List Int), (ffGo l bar r s o).1 = ffV bar (r.map (gt l)) s
  | [], _, _ => rfl
  | i :: r, s, o => by rw [ffGo, ffGo_V l bar r]; rfl
end Go.Proofs.Ytkojheinklgdeaa
