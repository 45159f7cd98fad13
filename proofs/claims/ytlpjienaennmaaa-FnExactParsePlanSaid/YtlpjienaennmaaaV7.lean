/-
  A program logic of heaplets: rows that are owned: made, appended to, read, written; slices of slices and strings.
-/
import Derived.Test.YtlpjienaennmaaaV6
namespace Go.Proofs.Ytlpjienaennmaaa
open Go

/-- a slice that owns its array: its elements, of k cells each, are css; behind them there may be spare places -/
def Row (E : TypeId) (k : Nat) (a : Option Addr) (c : Nat) (css : List (List Value)) : HProp := fun h =>
  (∀ cs ∈ css, cs.length = k) ∧ ((a = none ∧ c = 0 ∧ css = []) ∨
    ∃ g cur, a = some ⟨g, 0, none⟩ ∧ h g = some (.cells cur E (0, 0)) ∧ css.length ≤ c ∧ c ≤ maxLen ∧ cur.size = c * k ∧ cur.toList.take (css.length * k) = css.flatten)
theorem flatten_length {css : List (List Value)} {k : Nat} (h : ∀ cs ∈ css, cs.length = k) : css.flatten.length = css.length * k := by
  induction css with
  | nil => simp
  | cons c r ih => simp only [List.flatten_cons, List.length_append, List.length_cons, ih (fun x hx => h x (by simp [hx])), h c (by simp)]; rw [Nat.add_mul]; omega
theorem flatten_get {css : List (List Value)} {k : Nat} (h : ∀ cs ∈ css, cs.length = k) {i j : Nat} {cs : List Value} {v : Value} (hi : css[i]? = some cs) (hj : cs[j]? = some v) : css.flatten[i * k + j]? = some v := by
  induction css generalizing i with
  | nil => cases hi
  | cons c r ih =>
    have hc := h c (by simp)
    cases i with
    | zero =>
      cases hi
      rw [List.flatten_cons, Nat.zero_mul, Nat.zero_add, List.getElem?_append_left (by have := (List.getElem?_eq_some_iff.1 hj).1; omega)]
      exact hj
    | succ i =>
      rw [List.flatten_cons, List.getElem?_append_right (by rw [hc, Nat.add_mul]; omega), hc]
      have := ih (fun x hx => h x (by simp [hx])) (by simpa using hi)
      rw [show (i + 1) * k + j - k = i * k + j by rw [Nat.add_mul]; omega]
      exact this
theorem Row.isSome {E : TypeId} {k : Nat} {a : Option Addr} {c : Nat} {css : List (List Value)} {h : Hp} (r : Row E k a c css h) (hne : css ≠ []) : ∃ g, a = some ⟨g, 0, none⟩ := by
  rcases r.2 with ⟨_, _, e⟩ | ⟨g, _, e, _⟩
  · exact absurd e hne
  · exact ⟨g, e⟩
theorem Row.cell {E : TypeId} {k g c : Nat} {css : List (List Value)} {h : Hp} (r : Row E k (some ⟨g, 0, none⟩) c css h) {i j : Nat} {cs : List Value} {v : Value} (hi : css[i]? = some cs) (hj : cs[j]? = some v) : h.cell ⟨g, i * k + j, none⟩ = some v := by
  rcases r.2 with ⟨e, _⟩ | ⟨g', cur, e, hg, hc, _, hs, ht⟩
  · cases e
  · cases e
    have := flatten_get r.1 hi hj
    rw [← ht, List.getElem?_take] at this
    split at this
    · simp only [Hp.cell, hg, Option.isSome_none, Bool.false_eq_true, if_false]
      simpa using this
    · cases this
theorem set_same {α : Type} {l : List α} {i : Nat} {x : α} (h : l[i]? = some x) : l.set i x = l := by
  apply List.ext_getElem?
  intro j
  rw [List.getElem?_set]
  split
  · rename_i e; subst e
    split
    · exact h.symm
    · rename_i hlt; rw [List.getElem?_eq_none (by omega)]
  · rfl
theorem Hp.one_at (b : Nat) (o : Obj) : Hp.one b o b = some o := by unfold Hp.one; rw [if_pos rfl]
theorem Hp.put_at (h : Hp) (b : Nat) (o : Obj) : h.put b o b = some o := by unfold Hp.put; rw [if_pos rfl]
theorem Row.nil (E : TypeId) (k : Nat) (h : Hp) : Row E k none 0 [] h := ⟨by simp, .inl ⟨rfl, rfl, rfl⟩⟩
/-- a literal is a row -/
theorem Cel.row {b k n : Nat} {E : TypeId} {cs : List Value} {css : List (List Value)} {h : Hp} (r : Cel b E cs h) (hk : ∀ x ∈ css, x.length = k) (hf : css.flatten = cs) (hn : css.length = n) (hm : n ≤ 1099511627776) : Row E k (some ⟨b, 0, none⟩) n css h := by
  have hl := flatten_length hk
  refine ⟨hk, .inr ⟨b, cs.toArray, rfl, r, by omega, by unfold maxLen; omega, by simp [← hf, hl, hn], ?_⟩⟩
  rw [hf] at hl
  rw [List.take_of_length_le (by simp [hl]), hf]
theorem Row.setLen {E : TypeId} {k c : Nat} {a : Option Addr} {css : List (List Value)} {h : Hp} (r : Row E k a c css h) (m : Nat) (hm : m ≤ css.length) : Row E k a c (css.take m) h := by
  refine ⟨fun cs hc => r.1 cs (List.mem_of_mem_take hc), ?_⟩
  rcases r.2 with ⟨e1, e2, e3⟩ | ⟨g, cur, e, hg, hc, hx, hs, ht⟩
  · exact .inl ⟨e1, e2, by simp [e3]⟩
  · refine .inr ⟨g, cur, e, hg, by simp; omega, hx, hs, ?_⟩
    have hl : (css.take m).length = m := by simp; omega
    have hk : ∀ x ∈ css.take m, x.length = k := fun x hx => r.1 x (List.mem_of_mem_take hx)
    rw [hl]
    have e1 : css.flatten = (css.take m).flatten ++ (css.drop m).flatten := by rw [← List.flatten_append, List.take_append_drop]
    have e2 : ((css.take m).flatten).length = m * k := by rw [flatten_length hk, hl]
    rw [e1] at ht
    have : m * k ≤ css.length * k := Nat.mul_le_mul_right k hm
    rw [show cur.toList.take (m * k) = (cur.toList.take (css.length * k)).take (m * k) by rw [List.take_take, Nat.min_eq_left this], ht, ← e2, List.take_left]

section
variable {P : Program} {n : Nat} {ops : Array Oper} {l : List Oper} {T : TypeId} {ρ : Env} {A : Amb} {fs : List HProp} {Q : NPost} {pos : String} {af : Array Edge}
theorem St.addRow {w : World} (E : TypeId) (k : Nat) (s : St A w fs) : St A w (fs ++ [Row E k none 0 []]) := by
  obtain ⟨ok, h, s, l, d⟩ := s
  exact ⟨ok, h, Sts.join s (gs := [Row E k none 0 []]) ⟨fun _ => none, fun _ => none, Row.nil E k _, trivial, fun _ => .inl rfl, Hp.none_le _, Hp.none_le _⟩ (h2 := fun _ => none) (fun _ => .inr rfl) (Hp.Le.refl _) (Hp.none_le _), l, d⟩
theorem Ent.addRow (E : TypeId) (k : Nat) : Ent A A fs (fs ++ [Row E k none 0 []]) := fun _ s => s.addRow E k
theorem CJ.addRow {c : Code} {Q : EPost} (E : TypeId) (k : Nat) (h : CJ P n c ρ A (fs ++ [Row E k none 0 []]) Q) : CJ P n c ρ A fs Q := CJ.ent (Ent.addRow E k) h
theorem Row.rdc {E : TypeId} {k g c m : Nat} {css : List (List Value)} {cs : List Value} {j off : Nat} {v : Value} (i : Nat) (hi : fs[i]? = some (Row E k (some ⟨g, 0, none⟩) c css)) (hm : css[m]? = some cs) (hj : cs[j]? = some v) (ho : off = m * k + j) : Rdc A fs ⟨g, off, none⟩ v :=
  Rdc.own i hi fun _ h => ho ▸ Row.cell h hm hj
/-- a whole element of an owned row -/
theorem Yd.loadR {X E : TypeId} {x : Operand} {g c k m off : Nat} {css : List (List Value)} {cs : List Value} [TyAgg P X k] (i : Nat) (hi : fs[i]? = some (Row E k (some ⟨g, 0, none⟩) c css)) (hx : ev ρ x = .pointer (some ⟨g, off, none⟩)) (ho : off = m * k) (hm : css[m]? = some cs) (hk : cs.length = k) :
    Yd P (.load X x) T ρ A fs (.agg cs.toArray) := by
  subst ho; exact Yd.loadN hx hk fun j v hj => Row.rdc i hi hm hj rfl
/-- a cell of an element of an owned row -/
theorem Yd.loadRC {X E : TypeId} {x : Operand} {g c k m j off : Nat} {css : List (List Value)} {cs : List Value} {v : Value} [TyCell P X] (i : Nat) (hi : fs[i]? = some (Row E k (some ⟨g, 0, none⟩) c css)) (hx : ev ρ x = .pointer (some ⟨g, off, none⟩)) (ho : off = m * k + j) (hm : css[m]? = some cs) (hj : cs[j]? = some v) :
    Yd P (.load X x) T ρ A fs v := Yd.load hx (Row.rdc i hi hm hj ho)
/-- x[:h] -/
theorem Yd.sliceH {X E : TypeId} {k : Nat} {zero : List Value} {x hi : Operand} {a : Option Addr} {m c : Nat} {j : Int} [h : TyElem P X E k zero] (hx : ev ρ x = .slice a m c) (hj : ev ρ hi = .int .i64 j) (h0 : 0 ≤ j) (h1 : j ≤ c) (ha : a = none → c = 0) (hs : ∀ q, a = some q → q.spot = none) :
    Yd P (.slice X x none (some hi) none) T ρ A fs (.slice a j.toNat c) := fun w _ => by
  have e : (a.map fun q : Addr => q.add 0) = a := by cases a <;> simp [Addr.add]
  simp only [dummy, execOp, Instr.sliceAt, Instr.slice, hx, hj, Sem.run_bind, h.run, Result.andThen_ok, Option.map_some, Option.map_none, Instr.sliceBounds, Instr.sliceBound, asIntOf, Sem.run_pure, h0, h1, and_self, if_true, h.size, Nat.zero_mul, e, Nat.sub_zero]
  simp
/-- x[l:] -/
theorem Yd.sliceL {X E : TypeId} {k : Nat} {zero : List Value} {x lo : Operand} {b o m c : Nat} {j : Int} [h : TyElem P X E k zero] (hx : ev ρ x = .slice (some ⟨b, o, none⟩) m c) (hj : ev ρ lo = .int .i64 j) (h0 : 0 ≤ j) (h1 : j ≤ m) :
    Yd P (.slice X x (some lo) none none) T ρ A fs (.slice (if c = j.toNat then some ⟨b, o, none⟩ else some ⟨b, o + j.toNat * k, none⟩) (m - j.toNat) (c - j.toNat)) := fun w _ => by
  simp only [dummy, execOp, Instr.sliceAt, Instr.slice, hx, hj, Sem.run_bind, h.run, Result.andThen_ok, Option.map_some, Option.map_none, Instr.sliceBounds, Instr.sliceBound, asIntOf, Sem.run_pure, h0, h1, and_self, if_true, h.size, add_lit]

/-- append of elements that are read -/
theorem OpR.append {X E : TypeId} {k : Nat} {zero : List Value} {s x : Operand} {a : Option Addr} {c b o m cx : Nat} {css ncss : List (List Value)} [h : TyElem P X E k zero] (i : Nat) (hi : fs[i]? = some (Row E k a c css))
    (hs : ev ρ s = .slice a css.length c) (hx : ev ρ x = .slice (some ⟨b, o, none⟩) m cx) (hm : ncss.length = m) (hk : ∀ cs ∈ ncss, cs.length = k) (h1 : ∀ cs ∈ ncss, ∀ u ∈ cs, u.oneCell' = true)
    (hr : ∀ q cs j v, ncss[q]? = some cs → cs[j]? = some v → Rdc A fs ⟨b, o + q * k + j, none⟩ v) (hb : css.length + m ≤ 1099511627776) :
    OpR P (.call { callee := .builtin .append, args := #[s, x], argTypes := #[X, X] }) T ρ A fs (fun v fs' => ∃ a' c', v = .slice a' (css ++ ncss).length c' ∧ fs' = fs.set i (Row E k a' c' (css ++ ncss))) := fun w st => by
  obtain ⟨inf, z, hinf, hz, hsz, hzc, hby⟩ := h.info
  have hrow : ∃ q, Row E k a c css q ∧ q.Le (hpOf w) := by
    obtain ⟨_, m, s', l, _⟩ := st; obtain ⟨q, hq, lq⟩ := s'.get hi; exact ⟨q, hq, lq.trans l⟩
  obtain ⟨q, hq, lq⟩ := hrow
  have hfl := flatten_length hq.1
  have hnl := flatten_length hk
  have hcell : ∀ j u, ncss.flatten[j]? = some u → w.cell? ((⟨b, o, none⟩ : Addr).add j) = some u := by
    intro j u hj
    rw [add_lit]
    have hkp := h.pos
    have hlt : j < ncss.flatten.length := (List.getElem?_eq_some_iff.1 hj).1
    rw [hnl] at hlt
    have hq1 : j / k < ncss.length := Nat.div_lt_of_lt_mul (by rw [Nat.mul_comm]; exact hlt)
    have hq2 : j % k < (ncss[j / k]).length := by rw [hk _ (List.getElem_mem hq1)]; exact Nat.mod_lt _ hkp
    have hj' : j / k * k + j % k = j := by rw [Nat.mul_comm]; exact Nat.div_add_mod j k
    have e2 := flatten_get hk (List.getElem?_eq_getElem hq1) (List.getElem?_eq_getElem hq2)
    rw [hj', hj] at e2
    cases e2
    have := hr (j / k) _ (j % k) _ (List.getElem?_eq_getElem hq1) (List.getElem?_eq_getElem hq2) w st
    rwa [show o + j / k * k + j % k = o + j by omega] at this
  have hone : ∀ u ∈ ncss.flatten, u.oneCell' = true := fun u hu => by
    obtain ⟨cs, hcs, hu⟩ := List.mem_flatten.1 hu; exact h1 cs hcs u hu
  have hlen : (css ++ ncss).length = css.length + m := by simp [hm]
  have hkk : ∀ cs ∈ css ++ ncss, cs.length = k := fun cs hc => (List.mem_append.1 hc).elim (hq.1 cs) (hk cs)
  have hnews : ncss.flatten.length = m * inf.size := by rw [hnl, hm, hsz]
  have hsz0 : (z.cells.size) = k := by rw [hzc]; simpa using h.len
  have hbytes : (css.length + m) * inf.bytes ≤ 140737488355328 := Nat.le_trans (Nat.mul_le_mul hb hby) (by omega)
  have ex : ∀ v w', (Builtin.append_ #[X, X] T #[.slice a css.length c, .slice (some ⟨b, o, none⟩) m cx]).run P w = .ok v w' →
      (execOp (ev ρ) (dummy (.call { callee := .builtin .append, args := #[s, x], argTypes := #[X, X] }) T)).run P w = .ok (.value v) w' := fun v w' hrun => by
    simp only [dummy, execOp, resolve, Sem.run_bind, Sem.run_pure, Result.andThen_ok, invoke, builtin, List.map_toArray, List.map_cons, List.map_nil, hs, hx, hrun]
  -- a new array
  have fresh : ∀ old, old < css.length + m → St A (w.drew.alloc (.cells (css.flatten.toArray ++ ncss.flatten.toArray ++ Builtin.zeroCells z.cells (grownCap w (css.length + m) old E - (css.length + m))) E))
      (fs.set i (Row E k (some ⟨w.heap.size, 0, none⟩) (grownCap w (css.length + m) old E) (css ++ ncss))) := fun old ho => by
    refine st.repl hi rfl rfl rfl fun k0 _ lk0 => ⟨Hp.one w.heap.size (.cells (css.flatten.toArray ++ ncss.flatten.toArray ++ Builtin.zeroCells z.cells (grownCap w (css.length + m) old E - (css.length + m))) E), ?_, ?_, ?_, ?_⟩
    · have hge := grownCap_ge w (css.length + m) old E
      refine ⟨hkk, .inr ⟨w.heap.size, _, rfl, Hp.one_at _ _, by rw [hlen]; exact hge, grownCap_le_maxLen w (css.length + m) old E (by unfold maxLen; omega), ?_, ?_⟩⟩
      · simp only [Array.size_append, List.size_toArray, size_zeroCells, hsz0, hfl, hnl, hm, ← Nat.add_mul]
        congr 1
        omega
      · simp only [Array.toList_append, List.append_assoc]
        rw [← List.append_assoc, List.flatten_append, List.take_left' (by simp [hfl, hnl, hm, Nat.add_mul])]
    · intro b' o' hb'
      unfold Hp.one at hb'
      split at hb'
      · rename_i e; subst e; cases hb'; show (w.heap.push _)[w.heap.size]? = _; simp
      · cases hb'
    · intro b' hb'
      right
      unfold Hp.one at hb'
      split at hb'
      · omega
      · cases hb'
    · intro b' o' hb' _
      exact hpOf_push w _ b' o' hb'
  rcases hq.2 with ⟨e1, e2, e3⟩ | ⟨g, cur, e1, hg, hc, hmx, hs', ht⟩
  · subst e1; subst e2; subst e3
    by_cases h0 : m = 0
    · have hn0 : ncss = [] := List.eq_nil_of_length_eq_zero (by omega)
      subst h0; subst hn0
      have hrun : (Builtin.append_ #[X, X] T #[.slice none 0 0, .slice (some ⟨b, o, none⟩) 0 cx]).run P w = .ok (.slice none 0 0) w := by
        simp [Builtin.append_, h.run, sizeOf, typeInfo, hinf, Builtin.lenOf, Builtin.firstCells, loadCells, loadCellsFrom]
      rw [ex _ _ hrun]
      refine ⟨_, ⟨none, 0, rfl, rfl⟩, ?_⟩
      rw [List.append_nil, set_same hi]; exact st
    · have hrun := run_append_nil (P := P) w X T E inf z h.und hinf hz ⟨b, o, none⟩ m cx ncss.flatten hnews hcell (by omega) (by omega) (by simp only [List.length_nil, Nat.zero_add] at hbytes; omega)
      rw [ex _ _ hrun]
      have := fresh 0 (by omega)
      simp only [List.length_nil, Nat.zero_add, List.flatten_nil, List.nil_append, Array.empty_append] at this ⊢
      exact ⟨_, ⟨_, _, by rw [hm], rfl⟩, this⟩
  · subst e1
    have hgw : w.heap[g]? = some (.cells cur E (0, 0)) := lq _ _ hg
    by_cases hroom : css.length + m ≤ c
    · have hfit : css.length * inf.size + ncss.flatten.length ≤ cur.size := by rw [hnews, hs', hsz, ← Nat.add_mul]; exact Nat.mul_le_mul_right _ hroom
      have hrun := run_append_room (P := P) w X T E inf h.und hinf g css.length c cur hgw ⟨b, o, none⟩ m cx ncss.flatten hnews hcell hone hroom hfit
      rw [ex _ _ hrun]
      refine ⟨_, ⟨some ⟨g, 0, none⟩, c, by rw [hlen], rfl⟩, st.turn hi g (.cells (cur.toList.take (css.length * inf.size) ++ ncss.flatten ++ cur.toList.drop (css.length * inf.size + ncss.flatten.length)).toArray E (0, 0)) ?_ rfl rfl rfl fun m0 hm0 _ => ⟨?_, hkk, .inr ⟨g, _, rfl, Hp.put_at _ _ _, by rw [hlen]; exact hroom, hmx, ?_, ?_⟩⟩⟩
      · funext b'
        unfold hpOf
        simp only [Hp.put]
        split
        · rename_i e; subst e; exact setRow_heap w b' cur _ E _ hgw
        · rename_i e; exact setRow_other w g b' _ e
      · rcases hm0.2 with ⟨e1, _⟩ | ⟨g', cur', e1, hg', _⟩
        · cases e1
        · cases e1; exact ⟨_, hg'⟩
      · simp only [List.size_toArray, List.length_append, List.length_take, List.length_drop, Array.length_toList]
        rw [hsz] at hfit ⊢
        omega
      · have e9 : (css ++ ncss).length * k = (cur.toList.take (css.length * inf.size) ++ ncss.flatten).length := by
          rw [hsz, ht]; simp only [List.length_append, hfl, hnl, Nat.add_mul]
        rw [e9, List.take_left, hsz, ht, List.flatten_append]
    · have holds : ∀ j u, css.flatten[j]? = some u → w.cell? ((⟨g, 0, none⟩ : Addr).add j) = some u := fun j u hj => by
        rw [add_lit, cell_hpOf]
        rw [← ht, List.getElem?_take] at hj
        split at hj
        · simp only [Hp.cell, hpOf, hgw, Option.isSome_none, Bool.false_eq_true, if_false]
          simpa using hj
        · cases hj
      have hrun := run_append_grow (P := P) w X T E inf z h.und hinf hz ⟨g, 0, none⟩ css.length c css.flatten (by rw [hfl, hsz]) holds ⟨b, o, none⟩ m cx ncss.flatten hnews hcell (by omega) (by omega) (growslice_fits (by omega) hbytes)
      rw [ex _ _ hrun]
      exact ⟨_, ⟨_, _, by rw [hlen], rfl⟩, fresh c (by omega)⟩
/-- append of a literal's elements -/
theorem OpR.appendT {X E Y : TypeId} {k : Nat} {zero : List Value} {s x : Operand} {a : Option Addr} {c b m cx : Nat} {css : List (List Value)} {cs : List Value} [TyElem P X E k zero] (ncss : List (List Value)) (i j : Nat) (hi : fs[i]? = some (Row E k a c css)) (hj : fs[j]? = some (Cel b Y cs))
    (hs : ev ρ s = .slice a css.length c) (hx : ev ρ x = .slice (some ⟨b, 0, none⟩) m cx) (hf : ncss.flatten = cs) (hm : ncss.length = m) (hk : (ncss.all fun cs => Nat.beq cs.length k) = true) (h1 : (ncss.all fun cs => cs.all Value.oneCell') = true)
    (hb : css.length + m ≤ 1099511627776) :
    OpR P (.call { callee := .builtin .append, args := #[s, x], argTypes := #[X, X] }) T ρ A fs (fun v fs' => ∃ a' c', v = .slice a' (css ++ ncss).length c' ∧ fs' = fs.set i (Row E k a' c' (css ++ ncss))) := by
  have hk' : ∀ cs ∈ ncss, cs.length = k := fun cs hc => Nat.eq_of_beq_eq_true (List.all_eq_true.1 hk cs hc)
  refine OpR.append i hi hs hx hm hk' (fun cs hc u hu => List.all_eq_true.1 (List.all_eq_true.1 h1 cs hc) u hu) (fun q cs' jj v h2 h3 => ?_) hb
  have := flatten_get hk' h2 h3
  rw [hf] at this
  rw [show 0 + q * k + jj = q * k + jj by omega]
  exact Cel.rdc j hj this
/-- append of nothing, out of a nil slice -/
theorem OpR.append0 {X E : TypeId} {k : Nat} {zero : List Value} {s x : Operand} {a : Option Addr} {c m : Nat} [h : TyElem P X E k zero]
    (hs : ev ρ s = .slice a m c) (hc : m ≤ c) (hx : ev ρ x = .slice none 0 0) :
    OpR P (.call { callee := .builtin .append, args := #[s, x], argTypes := #[X, X] }) T ρ A fs (fun v fs' => v = .slice a m c ∧ fs' = fs) := fun w st => by
  obtain ⟨inf, z, hinf, hz, hsz, hzc, hby⟩ := h.info
  have e : (execOp (ev ρ) (dummy (.call { callee := .builtin .append, args := #[s, x], argTypes := #[X, X] }) T)).run P w = .ok (.value (.slice a m c)) w := by
    cases a <;> simp [dummy, execOp, resolve, invoke, builtin, hs, hx, Builtin.append_, h.run, sizeOf, typeInfo, hinf, Builtin.lenOf, Builtin.firstCells, hc, storeCells]
  rw [e]
  exact ⟨_, ⟨rfl, rfl⟩, st⟩
theorem flatten_replicate_zeros (n : Nat) (zero : List Value) (hp : 0 < zero.length) : (List.replicate n zero).flatten = zeros n zero := by
  apply List.ext_getElem?
  intro j
  have hk : ∀ cs ∈ List.replicate n zero, cs.length = zero.length := fun cs hc => by rw [(List.mem_replicate.1 hc).2]
  by_cases hlt : j < n * zero.length
  · have hq : j / zero.length < n := Nat.div_lt_of_lt_mul (by rw [Nat.mul_comm]; exact hlt)
    have hr := Nat.mod_lt j hp
    have e := flatten_get hk (i := j / zero.length) (j := j % zero.length) (cs := zero) (v := zero[j % zero.length]) (by simp [hq]) (List.getElem?_eq_getElem hr)
    rw [show j / zero.length * zero.length + j % zero.length = j by rw [Nat.mul_comm]; exact Nat.div_add_mod j _] at e
    rw [e]
    simp [zeros, hlt, hr]
  · rw [List.getElem?_eq_none (by rw [flatten_length hk]; simpa using hlt), List.getElem?_eq_none (by simpa [zeros] using hlt)]
/-- make -/
theorem OpR.makeSlice {X E : TypeId} {k : Nat} {zero : List Value} {y z : Operand} {m c : Nat} [h : TyElem P X E k zero] (hy : ev ρ y = .int .i64 m) (hz : ev ρ z = .int .i64 c) (hmc : m ≤ c) (hb : c ≤ 1099511627776) :
    OpR P (.makeSlice X y z) T ρ A fs (fun v fs' => ∃ g, v = .slice (some ⟨g, 0, none⟩) m c ∧ fs' = fs ++ [Row E k (some ⟨g, 0, none⟩) c (List.replicate m zero)]) := fun w st => by
  obtain ⟨inf, zv, hinf, hzi, hsz, hzc, hby⟩ := h.info
  have hkp := h.pos
  have hzl : 0 < zero.length := by rw [h.len]; exact hkp
  have hlarge : inf.bytes * c ≤ 281474976710656 := by
    have : inf.bytes * c ≤ 128 * 1099511627776 := Nat.mul_le_mul hby hb
    omega
  have wm : IntKind.i64.wrap (m : Int) = m := wrap_in (by unfold I64; omega)
  have wc : IntKind.i64.wrap (c : Int) = c := wrap_in (by unfold I64; omega)
  have run : (Instr.makeSlice X (.int .i64 m) (.int .i64 c)).run P w = .ok (.slice (some ⟨w.heap.size, 0, none⟩) m c) (w.alloc (.cells (zeros c zero).toArray E)) := by
    have hinfo : ∀ w, (typeInfo E).run P w = .ok inf w := fun w => by simp [typeInfo, hinf]
    have hzero : ∀ w, (zeroValue E).run P w = .ok zv w := fun w => by simp [zeroValue, hinfo, hzi]
    have hsize : ∀ w, (sizeOf E).run P w = .ok k w := h.size
    have hcells : (Array.range (c * k)).map (fun i => (zero.toArray)[i % zero.toArray.size]!) = (zeros c zero).toArray := by
      simp only [zeros, h.len, List.size_toArray]
      rw [← List.toArray_range, List.map_toArray]
    unfold Instr.makeSlice
    simp only [Sem.run_bind, h.run, Result.andThen_ok, asInt, asIntOf, Sem.run_pure, hinfo, wm, wc]
    rw [if_neg (by
      simp only [Bool.or_eq_true, decide_eq_true_eq]
      have : (inf.bytes : Int) * (c : Int) ≤ 281474976710656 := by have := Int.ofNat_le.2 hlarge; rw [Int.natCast_mul] at this; omega
      omega)]
    simp only [Sem.run_bind, run_askRoom, Result.andThen_ok, hsize, Int.toNat_natCast]
    by_cases h0 : c * k = 0
    · have hc0 : c = 0 := by rcases Nat.mul_eq_zero.1 h0 with e | e <;> omega
      subst hc0
      simp only [Nat.zero_mul, if_true, Sem.run_bind, Sem.run_pure, Result.andThen_ok]
      have e0 : ∀ f : Nat → Value, (Array.range 0).map f = #[] := fun f => by simp
      simp only [newRow, e0, Sem.run_bind, run_newObj, Result.andThen_ok, Sem.run_pure, show zeros 0 zero = [] by simp [zeros]]
      rfl
    · rw [if_neg h0]
      simp only [Sem.run_bind, hzero, Sem.run_pure, Result.andThen_ok, hzc, hcells]
      simp [newRow]
  have e : (execOp (ev ρ) (dummy (.makeSlice X y z) T)).run P w = .ok (.value (.slice (some ⟨w.heap.size, 0, none⟩) m c)) (w.alloc (.cells (zeros c zero).toArray E)) := by
    simp only [dummy, execOp, hy, hz, Sem.run_bind, run, Result.andThen_ok]; rfl
  rw [e]
  refine ⟨_, ⟨_, rfl, rfl⟩, st.alloc _ _ ⟨fun cs hc => by rw [(List.mem_replicate.1 hc).2, h.len], .inr ⟨_, _, rfl, Hp.one_at _ _, by simpa using hmc, by unfold maxLen; omega, by simp [zeros, h.len], ?_⟩⟩⟩
  have e1 : (zeros c zero) = (List.replicate m zero).flatten ++ (List.replicate (c - m) zero).flatten := by
    rw [← List.flatten_append, List.replicate_append_replicate, flatten_replicate_zeros _ _ hzl, show m + (c - m) = c by omega]
  simp only [List.length_replicate]
  rw [e1, List.take_left' (by simp [h.len])]
theorem splice {α : Type} {A cs C vs : List α} {j q : Nat} (h : j + q ≤ cs.length) :
    (A ++ (cs ++ C)).take (A.length + j) ++ vs ++ (A ++ (cs ++ C)).drop (A.length + j + q) = A ++ ((cs.take j ++ vs ++ cs.drop (j + q)) ++ C) := by
  rw [Nat.add_assoc, List.take_length_add_append, List.drop_length_add_append, List.take_append_of_le_length (by omega), List.drop_append_of_le_length h]
  simp
/-- a store into a row -/
theorem OpR.storeR {X E : TypeId} {x y : Operand} {g c k q m off : Nat} {css : List (List Value)} {cs us : List Value} {v : Value} {a : Option Addr} [h : TySize P X q] (i j : Nat) (hi : fs[i]? = some (Row E k a c css)) (ha : a = some ⟨g, 0, none⟩) (hx : ev ρ x = .pointer (some ⟨g, off, none⟩)) (hy : ev ρ y = v)
    (hm : css[m]? = some cs) (ho : off = m * k + j) (hq : v.cells.size = q) (h1 : v.cells.toList.all Value.oneCell' = true) (hu : cs.take j ++ v.cells.toList ++ cs.drop (j + q) = us) (hjk : Nat.ble (j + q) cs.length = true) :
    OpR P (.store X x y) T ρ A fs (fun v' fs' => v' = undef ∧ fs' = fs.set i (Row E k a c (css.set m us))) := fun w s => by
  subst ha; subst ho
  obtain ⟨r0, hr0, lr0⟩ := (let ⟨_, k, s', l, _⟩ := s; let ⟨m, hm, lm⟩ := s'.get hi; ⟨m, hm, lm.trans l⟩ : ∃ r, Row E k (some ⟨g, 0, none⟩) c css r ∧ r.Le (hpOf w))
  obtain ⟨hk, ⟨e, _⟩ | ⟨g', cur, e, hg, hc, hmx, hs', ht⟩⟩ := hr0
  · cases e
  cases e
  have hb : hpOf w g = some (.cells cur.toList.toArray E (0, 0)) := by simpa using lr0 _ _ hg
  have hlen : v.cells.toList.length = q := by simpa using hq
  have hcs : cs.length = k := hk cs (List.mem_of_getElem? hm)
  have hmlt : m < css.length := (List.getElem?_eq_some_iff.1 hm).1
  have hjq : j + q ≤ k := by rw [← hcs]; exact Nat.le_of_ble_eq_true hjk
  have hbound : m * k + k ≤ css.length * k := by
    have : (m + 1) * k ≤ css.length * k := Nat.mul_le_mul_right k hmlt
    rw [Nat.add_mul] at this; omega
  have hbound2 : css.length * k ≤ cur.size := by rw [hs']; exact Nat.mul_le_mul_right k hc
  obtain ⟨w', e1, e2, e3, e4, e5⟩ := run_storeCells (P := P) v.cells.toList g E (m * k + j) cur.toList w hb (List.all_eq_true.1 h1) (by rw [hlen]; simp; omega) (m * k + j) 0 (by omega)
  have e : (execOp (ev ρ) (dummy (.store X x y) T)).run P w = .ok .skip w' := by
    simp [dummy, execOp, hx, hy, Instr.storeAt, Instr.sureAddr, storeVar, h.size, hq, e1]
  rw [e]
  rw [hlen] at e2
  have hk2 : ∀ x ∈ css.set m us, x.length = k := fun x hx => by
    rcases List.mem_or_eq_of_mem_set hx with h | h
    · exact hk x h
    · rw [h, ← hu]; simp only [List.length_append, List.length_take, List.length_drop, hlen, hcs]; omega
  refine ⟨_, ⟨rfl, rfl⟩, s.turn hi g _ e2 e3 e4 e5 fun m0 hm0 _ => ⟨?_, hk2, .inr ⟨g, _, rfl, Hp.put_at _ _ _, by simpa using hc, hmx, ?_, ?_⟩⟩⟩
  · rcases hm0.2 with ⟨e, _⟩ | ⟨_, _, e, hg', _⟩
    · cases e
    · cases e; exact ⟨_, hg'⟩
  · simp only [List.size_toArray, List.length_append, List.length_take, List.length_drop, hlen, Array.length_toList]
    omega
  · rw [List.length_set]
    have split1 : css = css.take m ++ cs :: css.drop (m + 1) := by
      rw [← List.getElem?_eq_some_iff.1 hm |>.2, List.getElem_cons_drop, List.take_append_drop]
    have setE : css.set m us = css.take m ++ us :: css.drop (m + 1) := by
      rw [List.set_eq_take_append_cons_drop, if_pos hmlt]
    have f1 : ((css.take m).flatten).length = m * k := by
      rw [flatten_length (fun x hx => hk x (List.mem_of_mem_take hx)), List.length_take, Nat.min_eq_left (by omega)]
    have hflat : css.flatten = (css.take m).flatten ++ (cs ++ (css.drop (m + 1)).flatten) := by
      conv => lhs; rw [split1]
      simp
    rw [setE]
    have hcur : cur.toList.take (css.length * k) = (css.take m).flatten ++ (cs ++ (css.drop (m + 1)).flatten) := by rw [ht, hflat]
    have hcur2 : cur.toList = (css.take m).flatten ++ (cs ++ ((css.drop (m + 1)).flatten ++ cur.toList.drop (css.length * k))) := by
      conv => lhs; rw [← List.take_append_drop (css.length * k) cur.toList, hcur]
      simp
    have goalL : (cur.toList.take (m * k + j) ++ v.cells.toList ++ cur.toList.drop (m * k + j + q)) = (css.take m).flatten ++ (us ++ ((css.drop (m + 1)).flatten ++ cur.toList.drop (css.length * k))) := by
      have := splice (A := (css.take m).flatten) (cs := cs) (C := (css.drop (m + 1)).flatten ++ cur.toList.drop (css.length * k)) (vs := v.cells.toList) (j := j) (q := q) (by rw [hcs]; exact hjq)
      rw [← hcur2, f1, hu] at this
      exact this
    rw [goalL]
    simp only [List.flatten_append, List.flatten_cons]
    rw [← List.append_assoc us, ← List.append_assoc, List.take_left' (by
      have := flatten_length hk2
      rw [setE] at this
      simp only [List.flatten_append, List.flatten_cons] at this
      rw [this, ← setE, List.length_set])]
end
end Go.Proofs.Ytlpjienaennmaaa
