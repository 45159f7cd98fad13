/-
  Append to a list without its first number.
-/
import Derived.Test.YtfnnhekbgjofoaaLI
namespace Go.Proofs.Ytfnnhekbgjofoaa
open Go
set_option maxRecDepth 20000

theorem run_append_room_off {P : Program} (w : World) (t ty e : TypeId) (i : TypeInfo) (ht : P.underlying t = some (.slice e)) (hi : P.info? e = some i)
    (g off sLen sCap : Nat) (cur : Array Value) (hg : w.heap[g]? = some (.cells cur e (0, 0)))
    (a : Addr) (m c : Nat) (news : List Value) (hl : news.length = m * i.size) (hnews : ∀ j u, news[j]? = some u → w.cell? (a.add j) = some u) (h1 : ∀ u ∈ news, u.oneCell' = true)
    (hroom : sLen + m ≤ sCap) (hfit : off + sLen * i.size + news.length ≤ cur.size) :
    (Builtin.append_ #[t, t] ty #[.slice (some ⟨g, off, none⟩) sLen sCap, .slice (some a) m c]).run P w =
      .ok (.slice (some ⟨g, off, none⟩) (sLen + m) sCap) (w.setRow g (cur.toList.take (off + sLen * i.size) ++ news ++ cur.toList.drop (off + sLen * i.size + news.length)).toArray) := by
  have hf := run_firstCells_some (P := P) w i.size m a m c news hl hnews
  have hst := run_storeCells_at P g (off + sLen * i.size) e news 0 cur w hg (by simpa using hfit) h1
  simp only [Nat.add_zero] at hst
  simp [Builtin.append_, run_underlying ht, sizeOf, typeInfo, hi, Builtin.lenOf, hroom, hf, Addr.add_lit, hst]
theorem encI_1 {l : List Int} : ∀ cs ∈ l.map encI, cs.length = 1 := fun cs h => by
  obtain ⟨x, _, rfl⟩ := List.mem_map.1 h; rfl
theorem Row.tailRd {E : TypeId} {g c cap : Nat} {l : List Int} {h : Hp} (r : Row E 1 (some ⟨g, 0, none⟩) c (l.map encI) h) (hb : l.length ≤ 1000000) (hc : l.tail.length ≤ cap) : RdL encI 1 h (.slice (some ⟨g, 1, none⟩) l.tail.length cap) l.tail := by
  refine ⟨⟨some ⟨g, 1, none⟩, cap, by rw [List.length_map], ⟨by rw [List.length_map, List.length_tail]; omega, by rw [List.length_map]; exact hc⟩, .inr ⟨g, 1, rfl, fun i cs j x h1 h2 => ?_⟩⟩, encI_1⟩
  rw [List.getElem?_map, List.getElem?_tail, ← List.getElem?_map] at h1
  have := Row.cell r h1 h2
  rwa [show 1 + i * 1 + j = (i + 1) * 1 + j by omega]
section
variable {P : Program} {T : TypeId} {ρ : Env} {A : Amb} {fs : List HProp}
/-- the list behind its first number -/
theorem Yd.tailR {X E : TypeId} {x lo : Operand} {g c m : Nat} [h : TyElem P X E 1 [vI 0]] (hx : ev ρ x = .slice (some ⟨g, 0, none⟩) m c) (hj : ev ρ lo = .int .i64 1) (h1 : 2 ≤ m) (h2 : m ≤ c) :
    Yd P (.slice X x (some lo) none none) T ρ A fs (.slice (some ⟨g, 1, none⟩) (m - 1) (c - 1)) := by
  have := Yd.sliceL (P := P) (T := T) (A := A) (fs := fs) (ρ := ρ) (X := X) hx hj (by omega) (by omega)
  rw [show (1 : Int).toNat = 1 from rfl, if_neg (by omega)] at this
  exact this
theorem OpR.apTail {X E Y : TypeId} {s x : Operand} {g c b cx : Nat} {l : List Int} {u : Int} [h : TyElem P X E 1 [vI 0]] (i j : Nat) (hi : fs[i]? = some (LR encI E 1 (some ⟨g, 0, none⟩) c l)) (hj : fs[j]? = some (Cel b Y [vI u]))
    (hs : ev ρ s = .slice (some ⟨g, 1, none⟩) (l.length - 1) (c - 1)) (hx : ev ρ x = .slice (some ⟨b, 0, none⟩) 1 cx) (h2 : 2 ≤ l.length) (hb : l.length ≤ 1000) :
    OpR P (.call { callee := .builtin .append, args := #[s, x], argTypes := #[X, X] }) T ρ A fs (fun v fs' => ∃ a' c', v = .slice a' l.length c' ∧ fs' = fs.set i (fun h => RdL encI 1 h (.slice a' l.length c') (l.tail ++ [u]))) := fun w st => by
  obtain ⟨inf, z, hinf, hz, hsz, hzc, hby⟩ := h.info
  have hrow : ∃ q, Row E 1 (some ⟨g, 0, none⟩) c (l.map encI) q ∧ q.Le (hpOf w) := by
    obtain ⟨_, m, s', l2, _⟩ := st; obtain ⟨q, hq, lq⟩ := s'.get hi; exact ⟨q, hq, lq.trans l2⟩
  obtain ⟨q, hq, lq⟩ := hrow
  have hcell : ∀ j u', [vI u][j]? = some u' → w.cell? ((⟨b, 0, none⟩ : Addr).add j) = some u' := fun j' u' hu => by
    have hr : Rdc A fs ⟨b, 0 + j', none⟩ u' := Rdc.own j hj fun _ r => Cel.cell r (by simpa using hu)
    rw [add_lit]; exact hr w st
  have hsz0 : (z.cells.size) = 1 := by rw [hzc]; rfl
  have hfl : ((l.map encI).flatten).length = l.length := by rw [flatten_length (k := 1) (by simp [encI])]; simp
  have ex : ∀ v w', (Builtin.append_ #[X, X] T #[.slice (some ⟨g, 1, none⟩) (l.length - 1) (c - 1), .slice (some ⟨b, 0, none⟩) 1 cx]).run P w = .ok v w' →
      (execOp (ev ρ) (dummy (.call { callee := .builtin .append, args := #[s, x], argTypes := #[X, X] }) T)).run P w = .ok (.value v) w' := fun v w' hrun => by
    simp only [dummy, execOp, resolve, Sem.run_bind, Sem.run_pure, Result.andThen_ok, invoke, builtin, List.map_toArray, List.map_cons, List.map_nil, hs, hx, hrun]
  rcases hq.2 with ⟨e1, _⟩ | ⟨g', cur, e1, hg, hc, hmx, hs', ht⟩
  · cases e1
  · cases e1
    rw [List.length_map, Nat.mul_one] at ht
    rw [List.length_map] at hc
    rw [Nat.mul_one] at hs'
    have hgw : w.heap[g]? = some (.cells cur E (0, 0)) := lq _ _ hg
    have hl1 : 1 + (l.length - 1) * inf.size = l.length := by rw [hsz]; omega
    by_cases hroom : l.length < c
    · have hrun := run_append_room_off (P := P) w X T E inf h.und hinf g 1 (l.length - 1) (c - 1) cur hgw ⟨b, 0, none⟩ 1 cx [vI u] (by rw [hsz]; rfl) hcell (by simp; rfl) (by omega) (by rw [hl1]; simp; omega)
      rw [hl1, show l.length - 1 + 1 = l.length by omega] at hrun
      rw [ex _ _ hrun]
      refine ⟨_, ⟨some ⟨g, 1, none⟩, c - 1, rfl, rfl⟩, st.turn hi g (.cells (cur.toList.take l.length ++ [vI u] ++ cur.toList.drop (l.length + [vI u].length)).toArray E (0, 0)) ?_ rfl rfl rfl fun m0 hm0 _ => ⟨?_, ?_⟩⟩
      · funext b'
        unfold hpOf
        simp only [Hp.put]
        split
        · rename_i e; subst e; exact setRow_heap w b' cur _ E _ hgw
        · rename_i e; exact setRow_other w g b' _ e
      · rcases hm0.2 with ⟨e1, _⟩ | ⟨g', cur', e1, hg', _⟩
        · cases e1
        · cases e1; exact ⟨_, hg'⟩
      · have hr : Row E 1 (some ⟨g, 0, none⟩) c ((l ++ [u]).map encI) (m0.put g (.cells (cur.toList.take l.length ++ [vI u] ++ cur.toList.drop (l.length + [vI u].length)).toArray E (0, 0))) := by
          refine ⟨encI_1, .inr ⟨g, _, rfl, Hp.put_at _ _ _, by simp; omega, hmx, ?_, ?_⟩⟩
          · simp only [List.size_toArray, List.length_append, List.length_take, List.length_drop, Array.length_toList, List.length_cons, List.length_nil]
            omega
          · have e9 : ((l ++ [u]).map encI).length * 1 = (cur.toList.take l.length ++ [vI u]).length := by
              rw [ht]; simp [hfl]
            rw [e9, List.take_left, ht, List.map_append, List.flatten_append]; rfl
        have ht2 : (l ++ [u]).tail = l.tail ++ [u] := by cases l with | nil => simp at h2 | cons a r => rfl
        have h9 := Row.tailRd (cap := c - 1) hr (by simp; omega) (by simp; omega)
        rw [ht2] at h9
        have hl9 : (l.tail ++ [u]).length = l.length := by simp; omega
        rwa [hl9] at h9
    · have hc2 : c = l.length := by omega
      have holds : ∀ j u', (l.tail.map vI)[j]? = some u' → w.cell? ((⟨g, 1, none⟩ : Addr).add j) = some u' := fun j' u' hu => by
        rw [add_lit, cell_hpOf]
        rw [List.getElem?_map, List.getElem?_tail] at hu
        obtain ⟨x0, hx0, rfl⟩ : ∃ x0, l[j' + 1]? = some x0 ∧ vI x0 = u' := by
          cases e : l[j' + 1]? with
          | none => rw [e] at hu; cases hu
          | some y => rw [e] at hu; exact ⟨y, rfl, Option.some.inj hu⟩
        have h8 := Row.cell hq (i := j' + 1) (j := 0) (cs := encI x0) (v := vI x0) (by rw [List.getElem?_map, hx0]; rfl) rfl
        have h7 := Hp.cell_le lq h8
        rwa [show (j' + 1) * 1 + 0 = 1 + j' by omega] at h7
      have hbytes : (l.length - 1 + 1) * inf.bytes ≤ 140737488355328 := Nat.le_trans (Nat.mul_le_mul (show l.length - 1 + 1 ≤ 1000 by omega) hby) (by omega)
      have hrun := run_append_grow (P := P) w X T E inf z h.und hinf hz ⟨g, 1, none⟩ (l.length - 1) (c - 1) (l.tail.map vI) (by rw [hsz]; simp) holds ⟨b, 0, none⟩ 1 cx [vI u] (by rw [hsz]; rfl) hcell (by omega) (by omega) (growslice_fits (by omega) hbytes)
      rw [show l.length - 1 + 1 = l.length by omega] at hrun
      rw [ex _ _ hrun]
      refine ⟨_, ⟨_, _, rfl, rfl⟩, st.repl hi rfl rfl rfl fun k0 _ lk0 => ⟨Hp.one w.heap.size (.cells ((l.tail.map vI).toArray ++ [vI u].toArray ++ Builtin.zeroCells z.cells (grownCap w l.length (c - 1) E - l.length)) E), ?_, ?_, ?_, ?_⟩⟩
      · have hge := grownCap_ge w l.length (c - 1) E
        have hl9 : (l.tail ++ [u]).length = l.length := by simp; omega
        have hr : Row E 1 (some ⟨w.heap.size, 0, none⟩) (grownCap w l.length (c - 1) E) ((l.tail ++ [u]).map encI) (Hp.one w.heap.size (.cells ((l.tail.map vI).toArray ++ [vI u].toArray ++ Builtin.zeroCells z.cells (grownCap w l.length (c - 1) E - l.length)) E)) := by
          refine ⟨encI_1, .inr ⟨w.heap.size, _, rfl, Hp.one_at _ _, by rw [List.length_map, hl9]; exact hge, grownCap_le_maxLen w l.length (c - 1) E (by unfold maxLen; omega), ?_, ?_⟩⟩
          · simp only [Array.size_append, List.size_toArray, size_zeroCells, hsz0, List.length_map, List.length_tail, List.length_cons, List.length_nil]
            omega
          · have e8 : ((l.tail ++ [u]).map encI).flatten = l.tail.map vI ++ [vI u] := by
              rw [List.map_append, List.flatten_append]
              congr 1
              induction l.tail with
              | nil => rfl
              | cons a r ih => simp only [List.map_cons, List.flatten_cons, ih]; rfl
            rw [e8]
            simp only [Array.toList_append, List.append_assoc]
            rw [← List.append_assoc, List.take_left' (by simp)]
        have h9 := hr.rd (by rw [List.length_map, hl9]; omega)
        rw [List.length_map, hl9] at h9
        exact h9
      · intro b' o' hb'
        unfold Hp.one at hb'
        split at hb'
        · rename_i e; subst e; cases hb'; show (w.heap.push _)[w.heap.size]? = _; simp
        · cases hb'
      · intro b' hb'
        right
        unfold Hp.one at hb'
        split at hb'
        · omega
        · cases hb'
      · intro b' o' hb' _
        exact hpOf_push w _ b' o' hb'
end
end Go.Proofs.Ytfnnhekbgjofoaa
