/-
  All orders of cuts: plain laws.
-/
import Derived.Test.YtfnnhekbgjofoaaK1
namespace Go.Proofs.Ytfnnhekbgjofoaa
open Go

def ords (K : List (Int × Int)) : Nat → List Int → List (List Int)
  | 0, s => [s]
  | f + 1, s => K.flatMap fun q => if okStep K s q.1 = true then ords K f (s ++ [q.1]) else []
theorem flatMap_len {α β : Type} {g : α → List β} {m : Nat} : ∀ {l : List α}, (∀ x ∈ l, (g x).length ≤ m) → (l.flatMap g).length ≤ l.length * m
  | [], _ => by simp
  | x :: r, h => by
    have h1 := flatMap_len (g := g) (l := r) (fun y hy => h y (List.mem_cons_of_mem _ hy))
    have h2 := h x List.mem_cons_self
    simp only [List.flatMap_cons, List.length_append, List.length_cons, Nat.add_mul]
    omega
theorem ords_len (K : List (Int × Int)) : ∀ (f : Nat) (s : List Int), (ords K f s).length ≤ K.length ^ f
  | 0, s => by simp [ords]
  | f + 1, s => by
    rw [ords, Nat.pow_succ, Nat.mul_comm]
    refine flatMap_len fun q _ => ?_
    split
    · exact ords_len K f _
    · simp
theorem ords_mem {K : List (Int × Int)} : ∀ (f : Nat) (s : List Int), begOk K [] s = true → ∀ t ∈ ords K f s, begOk K [] t = true ∧ t.length = s.length + f
  | 0, s, hs, t, ht => by
    rw [ords, List.mem_singleton] at ht; subst ht; exact ⟨hs, rfl⟩
  | f + 1, s, hs, t, ht => by
    rw [ords, List.mem_flatMap] at ht
    obtain ⟨q, hq, ht⟩ := ht
    split at ht
    · rename_i ho
      have := ords_mem f (s ++ [q.1]) (by rw [begOk_append, hs]; simp [begOk, ho]) t ht
      refine ⟨this.1, ?_⟩
      rw [this.2]; simp; omega
    · cases ht
theorem ords_pre {K : List (Int × Int)} : ∀ (f : Nat) (s : List Int), ∀ t ∈ ords K f s, t.take s.length = s
  | 0, s, t, ht => by
    rw [ords, List.mem_singleton] at ht; subst ht; simp
  | f + 1, s, t, ht => by
    rw [ords, List.mem_flatMap] at ht
    obtain ⟨q, hq, ht⟩ := ht
    split at ht
    · have := congrArg (List.take s.length) (ords_pre f (s ++ [q.1]) t ht)
      rw [List.take_take] at this
      simpa using this
    · cases ht
theorem ords_nth {K : List (Int × Int)} {f : Nat} {s : List Int} {x : Int} {t : List Int} (ht : t ∈ ords K f (s ++ [x])) : t[s.length]? = some x := by
  have := ords_pre f _ t ht
  have h2 := congrArg (fun l => l[s.length]?) this
  simp only [List.getElem?_take, List.length_append, List.length_cons, List.length_nil] at h2
  rw [if_pos (by omega)] at h2
  rw [h2]; simp
theorem ords_ne {K : List (Int × Int)} (hK : K.Pairwise (fun p q => p.1 < q.1)) : ∀ (f : Nat) (s : List Int), (ords K f s).Pairwise (· ≠ ·)
  | 0, s => by simp [ords]
  | f + 1, s => by
    rw [ords]
    have key : ∀ A : List (Int × Int), A.Pairwise (fun p q => p.1 < q.1) → (A.flatMap fun q => if okStep K s q.1 = true then ords K f (s ++ [q.1]) else []).Pairwise (· ≠ ·) := by
      intro A
      induction A with
      | nil => intro _; simp
      | cons q r ih =>
        intro hp
        rw [List.pairwise_cons] at hp
        rw [List.flatMap_cons, List.pairwise_append]
        refine ⟨?_, ih hp.2, fun t ht u hu e => ?_⟩
        · split
          · exact ords_ne hK f _
          · exact .nil
        · rw [List.mem_flatMap] at hu
          obtain ⟨z, hz, hu⟩ := hu
          split at ht
          · split at hu
            · have h1 := ords_nth ht
              have h2 := ords_nth hu
              rw [e, h2] at h1
              have := hp.1 z hz
              have := Option.some.inj h1
              omega
            · cases hu
          · cases ht
    exact key K hK
/-- a product that the program makes -/
def chs (n k : Int) : Nat → Int → Int
  | 0, w => w
  | i + 1, w => let v := chs n k i w; v * (n - k + (i + 1 : Nat)) / (i + 1 : Nat)
def BT.ordO : BT → Int
  | .c _ _ l r => chs (l.cuts + r.cuts) l.cuts l.cuts.toNat 1 * l.ordO * r.ordO
  | .w => 1
  | .p _ _ => 1
def BT.sh : BT → BT
  | .c _ _ l r => .c true 0 l.sh r.sh
  | .w => .w
  | .p _ _ => .w
theorem BT.sh_sz : ∀ b : BT, b.sh.sz = b.sz
  | .w => rfl
  | .p _ _ => rfl
  | .c _ _ l r => by simp only [BT.sh, BT.sz, l.sh_sz, r.sh_sz]
theorem BT.sh_cuts : ∀ b : BT, b.sh.cuts = b.cuts
  | .w => rfl
  | .p _ _ => rfl
  | .c _ _ l r => by simp only [BT.sh, BT.cuts, l.sh_cuts, r.sh_cuts]
theorem BT.sh_knots : ∀ (b : BT) (n ab : Int), b.sh.knots n ab = b.knots n ab
  | .w, _, _ => rfl
  | .p _ _, _, _ => rfl
  | .c _ _ l r, n, ab => by simp only [BT.sh, BT.knots, l.sh_knots, r.sh_knots, l.sh_sz]
theorem BT.sh_ord : ∀ b : BT, b.sh.ordO = b.ordO
  | .w => rfl
  | .p _ _ => rfl
  | .c _ _ l r => by simp only [BT.sh, BT.ordO, l.sh_ord, r.sh_ord, l.sh_cuts, r.sh_cuts]
/-- all shapes with n cuts -/
def shapes : Nat → Nat → List BT
  | _, 0 => [.w]
  | 0, _ + 1 => []
  | f + 1, n + 1 => (List.range (n + 1)).flatMap fun i => (shapes f i).flatMap fun l => (shapes f (n - i)).map fun r => .c true 0 l r
theorem sh_mem : ∀ (b : BT) (f n : Nat), b.cuts = n → n ≤ f → b.sh ∈ shapes f n
  | .w, f, n, h, _ => by
    have : n = 0 := by simp only [BT.cuts] at h; omega
    subst this; cases f <;> simp [shapes, BT.sh]
  | .p _ _, f, n, h, _ => by
    have : n = 0 := by simp only [BT.cuts] at h; omega
    subst this; cases f <;> simp [shapes, BT.sh]
  | .c _ _ l r, f, n, h, hf => by
    have h1 := l.cuts_nonneg
    have h2 := r.cuts_nonneg
    simp only [BT.cuts] at h
    obtain ⟨i, hi⟩ := Int.eq_ofNat_of_zero_le h1
    obtain ⟨j, hj⟩ := Int.eq_ofNat_of_zero_le h2
    obtain ⟨m, rfl⟩ : ∃ m, n = m + 1 := ⟨n - 1, by omega⟩
    obtain ⟨g, rfl⟩ : ∃ g, f = g + 1 := ⟨f - 1, by omega⟩
    simp only [shapes, List.mem_flatMap, List.mem_range, List.mem_map, BT.sh]
    exact ⟨i, by omega, l.sh, sh_mem l g i hi (by omega), r.sh, sh_mem r g (m - i) (by omega) (by omega), rfl⟩
def chkO (b : BT) : Bool := decide (((ords (b.knots 0 (-1)) b.cuts.toNat []).length : Int) = b.ordO)
theorem chk_all : ((List.range 6).all fun n => (shapes 6 n).all chkO) = true := by decide +kernel
theorem ords_count {b : BT} (h : b.cuts ≤ 5) : ((ords (b.knots 0 (-1)) (b.knots 0 (-1)).length []).length : Int) = b.ordO := by
  have h0 := b.cuts_nonneg
  obtain ⟨n, hn⟩ := Int.eq_ofNat_of_zero_le h0
  have h1 := List.all_eq_true.1 (List.all_eq_true.1 chk_all n (by simp; omega)) b.sh (sh_mem b 6 n hn (by omega))
  have h2 := of_decide_eq_true h1
  rw [b.sh_knots, b.sh_cuts, b.sh_ord] at h2
  have h3 := b.knots_len 0 (-1)
  rw [show (b.knots 0 (-1)).length = b.cuts.toNat by omega]
  exact h2
end Go.Proofs.Ytfnnhekbgjofoaa
