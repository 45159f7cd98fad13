/-
  Orders of cuts that are drawn; the law on valid orders.
-/
import Derived.Test.YtfnnhekbgjofoaaK8
import Derived.Test.YtfnnhekbgjofoaaK7
import Derived.Test.YtfnnhekbgjofoaaK10
namespace Go.Proofs.Ytfnnhekbgjofoaa
open Go
set_option maxRecDepth 20000
set_option maxHeartbeats 1000000

theorem nodup_sub : ∀ {l out : List Int}, l.Pairwise (· ≠ ·) → (∀ x ∈ l, x ∈ out) → l.length ≤ out.length
  | [], _, _, _ => by simp
  | x :: r, out, h, hs => by
    rw [List.pairwise_cons] at h
    have h1 := nodup_sub (l := r) (out := out.erase x) h.2 (fun y hy => (List.mem_erase_of_ne (fun e => h.1 y hy e.symm)).2 (hs y (List.mem_cons_of_mem _ hy)))
    have h2 := hs x List.mem_cons_self
    have h3 := List.length_erase_of_mem h2
    have h4 := List.length_pos_of_mem h2
    simp only [List.length_cons]; omega
/-- a cut that can be made next -/
theorem avail {K : List (Int × Int)} (hK : KOk K) {out : List Int} (h : out.length < K.length) : ∃ (j : Nat) (q : Int × Int), K[j]? = some q ∧ q.1 ∉ out ∧ (q.2 < 0 ∨ q.2 ∈ out) := by
  refine Classical.byContradiction fun hn => ?_
  have key : ∀ (n : Nat), ∀ q ∈ K, q.1.toNat < n → q.1 ∈ out := by
    intro n
    induction n with
    | zero => intro q _ h; omega
    | succ n ih =>
      intro q hq hlt
      obtain ⟨j, hj⟩ := List.getElem?_of_mem hq
      have hu := hK.up q hq
      refine Classical.byContradiction fun hm => hn ⟨j, q, hj, hm, ?_⟩
      rcases hu.2.2 with h3 | h3
      · left; omega
      · right
        obtain ⟨z, hz, e⟩ := List.mem_map.1 h3.2.2
        rw [← e]
        exact ih z hz (by have := hK.up z hz; omega)
  have := nodup_sub (l := K.map Prod.fst) (out := out) (by
    rw [List.pairwise_map]; exact hK.asc.imp fun h => by omega) (fun x hx => by
    obtain ⟨q, hq, rfl⟩ := List.mem_map.1 hx
    exact key (q.1.toNat + 1) q hq (by omega))
  rw [List.length_map] at this
  omega
theorem begOk_at {K : List (Int × Int)} {s : List Int} (h : begOk K [] s = true) {k : Nat} {n : Int} (hn : s[k]? = some n) : okStep K (s.take k) n = true := by
  have hs : s = s.take k ++ n :: s.drop (k + 1) := by
    rw [← dropC hn, List.take_append_drop]
  rw [hs, begOk_append, Bool.and_eq_true, List.nil_append, begOk, Bool.and_eq_true] at h
  exact h.2.1
theorem beg_first {K : List (Int × Int)} (hK : KOk K) {s : List Int} (h : begOk K [] s = true) {n : Int} (hn : s[0]? = some n) : n = 0 := by
  obtain ⟨h1, h2, h3⟩ := okStep_iff.1 (begOk_at h hn)
  obtain ⟨q, hq, rfl⟩ := List.mem_map.1 h1
  rw [abv_mem hK.asc hq] at h3
  have := hK.up q hq
  simp at h3; omega
theorem beg_later {K : List (Int × Int)} (hK : KOk K) {s : List Int} (h : begOk K [] s = true) {k : Nat} (h0 : 0 < k) {n : Int} (hn : s[k]? = some n) : abv K n ∈ s.take k := by
  obtain ⟨h1, h2, h3⟩ := okStep_iff.1 (begOk_at h hn)
  refine h3.resolve_left fun h4 => h2 ?_
  obtain ⟨q, hq, rfl⟩ := List.mem_map.1 h1
  rw [abv_mem hK.asc hq] at h4
  have hu := hK.up q hq
  obtain ⟨u, hu0⟩ := someC (l := s) (j := 0) (by have := ltC hn; omega)
  have hz := beg_first hK h hu0
  have e : q.1 = u := by omega
  rw [e]
  exact List.mem_of_getElem? (i := 0) (by rw [List.getElem?_take, if_pos h0]; exact hu0)
/-- a walk round a ring reaches its aim -/
theorem ring {n k j : Nat} (hk : k < n) (hj : j < n) (hne : k ≠ j) : (j + n - (k + 1) % n) % n < (j + n - k) % n := by
  rcases Nat.lt_or_ge (k + 1) n with h | h
  · rw [Nat.mod_eq_of_lt h]
    rcases Nat.lt_or_ge k j with h2 | h2
    · rw [show j + n - (k + 1) = (j - (k + 1)) + n by omega, show j + n - k = (j - k) + n by omega, Nat.add_mod_right, Nat.add_mod_right, Nat.mod_eq_of_lt (by omega), Nat.mod_eq_of_lt (by omega)]; omega
    · rw [Nat.mod_eq_of_lt (by omega), Nat.mod_eq_of_lt (by omega)]; omega
  · obtain rfl : n = k + 1 := by omega
    rw [Nat.mod_self, Nat.sub_zero, Nat.add_mod_right, Nat.mod_eq_of_lt hj, Nat.mod_eq_of_lt (by omega)]; omega
end Go.Proofs.Ytfnnhekbgjofoaa
