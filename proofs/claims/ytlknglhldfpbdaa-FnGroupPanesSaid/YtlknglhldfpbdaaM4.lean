/-
  Furnaces, plainly: groups by falling times are valid, and best.
-/
import Derived.Test.YtlknglhldfpbdaaM3
import Derived.Test.YtlknglhldfpbdaaA12
namespace Go.Proofs.Ytlknglhldfpbdaa
open Go

theorem cntI_perm {a b : List Int} {g : Int} (p : a.Perm b) : cntI g a = cntI g b := by
  induction p with
  | nil => rfl
  | cons x _ ih => simp only [cntI, ih]
  | swap x y l => simp only [cntI]; omega
  | trans _ _ i j => exact i.trans j
theorem cT_perm {a b : List Int} {v : Int} (p : a.Perm b) : cT a v = cT b v := by
  induction p with
  | nil => rfl
  | cons x _ ih => simp only [cT, ih]
  | swap x y l => simp only [cT]; omega
  | trans _ _ i j => exact i.trans j
theorem gp_perm (l : List Int) (room : Int) : (gpOf l room).Perm ((upN l.length).map fun q => q / room) := by
  have h1 : (idxBy (ltF l) l.length).map (gt (gpOf l room)) = (upN l.length).map fun q => q / room := by
    apply List.ext_getElem?
    intro q
    by_cases hq : q < l.length
    · obtain ⟨x, hx⟩ := someC (l := idxBy (ltF l) l.length) (j := q) (by rw [idxBy_len]; exact hq)
      have := gp_at (room := room) hx
      rw [List.getElem?_map, hx, Option.map_some, gtC this, mapU_get hq]
    · rw [List.getElem?_eq_none (by simp [idxBy_len]; omega), List.getElem?_eq_none (by simp [upN_len]; omega)]
  have h2 := (idxBy_perm (ltF l) l.length).map (gt (gpOf l room))
  have h3 := map_gt (gpOf l room)
  rw [gpOf_len] at h3
  rw [h1, h3] at h2
  exact h2.symm
theorem cnt_div {room g : Int} (h0 : 1 ≤ room) : ∀ n : Nat, cntI g ((upN n).map fun q => q / room) ≤ max 0 (min room (n - g * room))
  | 0 => by simp [upN, cntI]; omega
  | n + 1 => by
    have ih := cnt_div (g := g) h0 n
    rw [upN_succ, List.map_append, cntI_append]
    simp only [List.map_cons, List.map_nil, cntI]
    have e := Int.mul_ediv_add_emod (n : Int) room
    have r0 := Int.emod_nonneg (n : Int) (show room ≠ 0 by omega)
    have r1 := Int.emod_lt_of_pos (n : Int) (show 0 < room by omega)
    by_cases hg : (n : Int) / room = g
    · rw [if_pos hg]
      rw [hg, Int.mul_comm] at e
      omega
    · rw [if_neg hg]; omega
theorem gp_ok {l : List Int} {room : Int} (ht : timesOk l = true) (h0 : 1 ≤ room) (h1 : room ≤ 16) : grpOk l (gpOf l room) room = true := by
  have h := timesOk_iff.1 ht
  refine grpOk_iff.2 ⟨h, ⟨gpOf_len l room, h0, h1⟩, fun g hg => ?_⟩
  have hc := cnt_div (g := g) h0 l.length
  rw [← cntI_perm (gp_perm l room)] at hc
  obtain ⟨q, hq, rfl⟩ := List.mem_map.1 ((gp_perm l room).mem_iff.1 hg)
  have h2 := upN_mem.1 hq
  have h3 : 0 ≤ q / room := Int.ediv_nonneg h2.1 (by omega)
  have h4 : q / room ≤ q := Int.ediv_le_self _ h2.1
  exact ⟨h3, by omega, by omega⟩
/-- a list's first numbers are longer -/
theorem cT_first {v : Int} : ∀ {d : List Int} {q : Nat} {u : Int}, d.Pairwise Dn → d[q]? = some u → v < u → (q : Int) + 1 ≤ cT d v
  | [], q, u, _, h, _ => by cases h
  | x :: d, q, u, hd, h, hv => by
    rw [List.pairwise_cons] at hd
    have nn : ∀ d : List Int, 0 ≤ cT d v := by
      intro d; induction d with
      | nil => exact Int.le_refl _
      | cons x d ih => rw [cT]; split <;> omega
    cases q with
    | zero => cases h; rw [cT, if_pos hv]; have := nn d; omega
    | succ q =>
      have hu : d[q]? = some u := by simpa using h
      have h1 := cT_first hd.2 hu hv
      have h2 := hd.1 u (List.mem_of_getElem? hu)
      unfold Dn at h2
      rw [cT, if_pos (by omega)]; omega
theorem c2_some {v g : Int} : ∀ {t r : List Int}, 1 ≤ c2 t r v g → ∃ (i : Nat) (u : Int), t[i]? = some u ∧ r[i]? = some g ∧ v < u
  | [], _, h => by simp [c2] at h
  | _ :: _, [], h => by simp [c2] at h
  | u :: t, x :: r, h => by
    by_cases hx : x = g ∧ v < u
    · exact ⟨0, u, rfl, by rw [← hx.1]; rfl, hx.2⟩
    · rw [c2, if_neg hx] at h
      obtain ⟨i, w, h1, h2, h3⟩ := c2_some (v := v) (g := g) (t := t) (r := r) (by omega)
      exact ⟨i + 1, w, by simpa using h1, by simpa using h2, h3⟩
theorem gp_nG {l : List Int} {room v : Int} (h0 : 1 ≤ room) (hv : 0 ≤ v) : room * nG l (gpOf l room) v ≤ cT l v + room - 1 := by
  have key : ∀ q : Nat, q < 16 → v < gm l (gpOf l room) q → (q : Int) * room < cT l v := by
    intro g _ hg
    obtain ⟨i, u, h1, h2, h3⟩ := c2_some ((gm_c2 hv).1 hg)
    obtain ⟨q, hq, he⟩ := gp_place (room := room) (ltC h1)
    rw [h2] at he
    have he := Option.some.inj he
    have h4 : ((idxBy (ltF l) l.length).map (gt l))[q]? = some u := by rw [List.getElem?_map, hq, Option.map_some, gtC' h1]
    have h5 := cT_first (falling_dn l) h4 h3
    have h6 : ((idxBy (ltF l) l.length).map (gt l)).Perm l := by
      have := (idxBy_perm (ltF l) l.length).map (gt l)
      rwa [map_gt] at this
    rw [cT_perm h6] at h5
    have e := Int.mul_ediv_add_emod (q : Int) room
    have r0 := Int.emod_nonneg (q : Int) (show room ≠ 0 by omega)
    rw [← he, Int.mul_comm] at e
    omega
  have cnn : 0 ≤ cT l v := by
    have : ∀ d : List Int, 0 ≤ cT d v := by
      intro d; induction d with
      | nil => exact Int.le_refl _
      | cons x d ih => rw [cT]; split <;> omega
    exact this l
  have hm : nG l (gpOf l room) v ≤ (cT l v + room - 1) / room := by
    refine cnt_bound (p := fun q => v < gm l (gpOf l room) (q : Int)) (fun q hq hp => ?_) (Int.ediv_nonneg (by omega) (by omega))
    have := key q hq hp
    refine Int.lt_of_not_ge fun hle => ?_
    have h2 : (cT l v + room - 1) / room * room ≤ q * room := Int.mul_le_mul_of_nonneg_right hle (by omega)
    have e := Int.mul_ediv_add_emod (cT l v + room - 1) room
    have r1 := Int.emod_lt_of_pos (cT l v + room - 1) (show 0 < room by omega)
    rw [Int.mul_comm] at e
    omega
  have h2 : room * nG l (gpOf l room) v ≤ room * ((cT l v + room - 1) / room) := Int.mul_le_mul_of_nonneg_left hm (by omega)
  have e := Int.mul_ediv_add_emod (cT l v + room - 1) room
  have r0 := Int.emod_nonneg (cT l v + room - 1) (show room ≠ 0 by omega)
  omega
theorem le_of_mul {room a b c : Int} (h0 : 1 ≤ room) (h1 : room * a ≤ c + room - 1) (h2 : c ≤ room * b) : a ≤ b := by
  refine Int.le_of_lt_add_one (Int.lt_of_mul_lt_mul_left (a := room) ?_ (by omega))
  rw [Int.mul_add, Int.mul_one]; omega
theorem gp_best {l gr : List Int} {room : Int} (hg : grpOk l gr room = true) : fsN l (gpOf l room) 16 ≤ fsN l gr 16 := by
  have h := grpOk_iff.1 hg
  rw [fs_layers fun u hu => (h.1.2 u hu).2, fs_layers fun u hu => (h.1.2 u hu).2]
  refine sumN_le fun v _ => ?_
  exact le_of_mul h.2.1.2.1 (gp_nG h.2.1.2.1 (by omega)) (cT_le (by omega) h.2.1.1 h.2.2 (by omega))
theorem fs_tot {l gr : List Int} {room : Int} (hg : grpOk l gr room = true) : fsN l gr 16 ≤ totI l := by
  have h := grpOk_iff.1 hg
  rw [fs_layers fun u hu => (h.1.2 u hu).2, tot_layers h.1.2]
  exact sumN_le fun v _ => nG_le (by omega) h.2.1.1 fun g hg => ⟨(h.2.2 g hg).1, (h.2.2 g hg).2.1⟩
theorem fs_mx {l gr : List Int} {room : Int} (hg : grpOk l gr room = true) : mx l ≤ fsN l gr 16 := by
  have h := grpOk_iff.1 hg
  refine mx_le (by have := fsN_b (t := l) (r := gr) (fun u hu => (h.1.2 u hu).2) 16; omega) fun x hx => ?_
  obtain ⟨i, hi⟩ := List.mem_iff_getElem?.1 hx
  have hlt := ltC hi
  obtain ⟨g, hgi⟩ := someC (l := gr) (j := i) (by have := h.2.1.1; omega)
  have hgr := h.2.2 g (List.mem_of_getElem? hgi)
  have one : ∀ {t r : List Int} {i : Nat} {x g : Int}, t[i]? = some x → r[i]? = some g → x ≤ gm t r g := by
    intro t
    induction t with
    | nil => intro r i x g h1 _; cases h1
    | cons u t ih =>
      intro r i x g h1 h2
      cases r with
      | nil => cases h2
      | cons y r =>
        cases i with
        | zero => cases h1; cases h2; simp only [gm, if_true]; omega
        | succ i =>
          have := ih (r := r) (i := i) (x := x) (g := g) (by simpa using h1) (by simpa using h2)
          simp only [gm]; split <;> omega
  have h1 := one hi hgi
  have mono : ∀ n : Nat, ∀ k : Nat, k < n → gm l gr k ≤ fsN l gr n := by
    intro n
    induction n with
    | zero => intro k hk; omega
    | succ n ih =>
      intro k hk
      have h2 := gm_nn l gr n
      have h3 := (fsN_b (t := l) (r := gr) (fun u hu => (h.1.2 u hu).2) n).1
      by_cases e : k = n
      · subst e; simp only [fsN]; omega
      · have := ih k (by omega); simp only [fsN]; omega
  have h2 := mono 16 g.toNat (by omega)
  rw [show ((g.toNat : Nat) : Int) = g by omega] at h2
  omega
theorem gp_one {l : List Int} (ht : timesOk l = true) : fsN l (gpOf l 1) 16 = totI l := by
  have h := grpOk_iff.1 (gp_ok ht (by omega) (by omega) : grpOk l (gpOf l 1) 1 = true)
  rw [fs_layers fun u hu => (h.1.2 u hu).2, tot_layers h.1.2]
  refine sumN_congr fun v _ => ?_
  have h1 := nG_le (t := l) (r := gpOf l 1) (v := (v : Int)) (by omega) h.2.1.1 fun g hg => ⟨(h.2.2 g hg).1, (h.2.2 g hg).2.1⟩
  have h2 := cT_le (t := l) (r := gpOf l 1) (v := (v : Int)) (room := 1) (by omega) h.2.1.1 h.2.2 (by omega)
  omega
theorem gp_more {l : List Int} {room : Int} (ht : timesOk l = true) (h0 : 1 ≤ room) (h1 : room + 1 ≤ 16) : fsN l (gpOf l (room + 1)) 16 ≤ fsN l (gpOf l room) 16 := by
  have h := grpOk_iff.1 (gp_ok ht h0 (by omega) : grpOk l (gpOf l room) room = true)
  rw [fs_layers fun u hu => (h.1.2 u hu).2, fs_layers fun u hu => (h.1.2 u hu).2]
  refine sumN_le fun v _ => ?_
  have h2 := gp_nG (l := l) (room := room + 1) (v := (v : Int)) (by omega) (by omega)
  have h3 := cT_le (t := l) (r := gpOf l room) (v := (v : Int)) (by omega) h.2.1.1 h.2.2 (by omega)
  have nn : 0 ≤ nG l (gpOf l room) v := by
    have : ∀ n : Nat, 0 ≤ sumN (fun g => if (v : Int) < gm l (gpOf l room) g then 1 else 0) n := fun n => by
      induction n with
      | zero => exact Int.le_refl _
      | succ n ih => rw [sumN]; split <;> omega
    exact this 16
  exact le_of_mul (room := room + 1) (by omega) h2 (by rw [Int.add_mul, Int.one_mul]; omega)
end Go.Proofs.Ytlknglhldfpbdaa
