/-
  Well formed plans as binary trees; plain laws on them.
-/
import Derived.Test.YtlpjienaennmaaaLI
namespace Go.Proofs.Ytlpjienaennmaaa
open Go

inductive BT where
  | w
  | p (i : Int) (t : Bool)
  | c (d : Bool) (a : Int) (l r : BT)
  deriving DecidableEq
def opOf (d : Bool) : Int := if d then 2 else 3
def BT.op : BT → Int | .w => 0 | .p _ _ => 1 | .c d _ _ _ => opOf d
def BT.plan : BT → Plan
  | .w => .mk 0 0 0 false []
  | .p i t => .mk 1 0 i t []
  | .c d a l r => .mk (opOf d) a 0 false [l.plan, r.plan]
def BT.sz : BT → Int
  | .w => 1
  | .p _ _ => 1
  | .c _ _ l r => 1 + l.sz + r.sz
def BT.cuts : BT → Int
  | .w => 0
  | .p _ _ => 0
  | .c _ _ l r => 1 + l.cuts + r.cuts
theorem BT.sz_pos : ∀ b : BT, 1 ≤ b.sz
  | .w => by simp [BT.sz]
  | .p _ _ => by simp [BT.sz]
  | .c _ _ l r => by have := l.sz_pos; have := r.sz_pos; simp only [BT.sz]; omega
theorem BT.cuts_nonneg : ∀ b : BT, 0 ≤ b.cuts
  | .w => by simp [BT.cuts]
  | .p _ _ => by simp [BT.cuts]
  | .c _ _ l r => by have := l.cuts_nonneg; have := r.cuts_nonneg; simp only [BT.cuts]; omega
theorem BT.sz_cuts : ∀ b : BT, b.sz = 1 + 2 * b.cuts
  | .w => rfl
  | .p _ _ => rfl
  | .c _ _ l r => by have := l.sz_cuts; have := r.sz_cuts; simp only [BT.sz, BT.cuts]; omega

/-- a well formed plan lies here, to be read -/
inductive RdT (h : Hp) : List Value → BT → Prop
  | w {a : Option Addr} {c : Nat} : RdT h [vI 0, vI 0, vI 0, .bool false, .slice a 0 c] .w
  | p {i : Int} {t : Bool} {a : Option Addr} {c : Nat} : I64 i → RdT h [vI 1, vI 0, vI i, .bool t, .slice a 0 c] (.p i t)
  | c {d : Bool} {at' : Int} {b o c : Nat} {l r : BT} {cs0 cs1 : List Value} : I64 at' → 2 ≤ c → RowAt h 5 b o [cs0, cs1] → RdT h cs0 l → RdT h cs1 r →
      RdT h [vI (opOf d), vI at', vI 0, .bool false, .slice (some ⟨b, o, none⟩) 2 c] (.c d at' l r)
theorem RowAt.mono {h k : Hp} {n b o : Nat} {css : List (List Value)} (l : h.Le k) (r : RowAt h n b o css) : RowAt k n b o css := fun i cs j x h1 h2 => Hp.cell_le l (r i cs j x h1 h2)
theorem RowAt.up {A B : Amb} [AmbLe A B] {n b o : Nat} {css : List (List Value)} (r : RowAt A.h n b o css) : RowAt B.h n b o css := r.mono Go.Proofs.Ytlpjienaennmaaa.up
theorem RdT.mono {h k : Hp} (l : h.Le k) {cs : List Value} {b : BT} (r : RdT h cs b) : RdT k cs b := by
  induction r with
  | w => exact .w
  | p a => exact .p a
  | c a hc r _ _ i j => exact .c a hc (r.mono l) i j
theorem RdT.up {A B : Amb} [AmbLe A B] {cs : List Value} {b : BT} (r : RdT A.h cs b) : RdT B.h cs b := r.mono Go.Proofs.Ytlpjienaennmaaa.up
theorem RdT.len {h : Hp} {cs : List Value} {b : BT} (r : RdT h cs b) : cs.length = 5 := by cases r <;> rfl

/-! ## being well formed -/
def badTop (o a p : Int) (t : Bool) (n : Int) : Bool :=
  bif decide (o = 2) || decide (o = 3) then !decide (n = 2) || !decide (p = 0) || t
  else !decide (n = 0) || !decide (a = 0) || (!decide (o = 1) && (!decide (o = 0) || !decide (p = 0) || t))
theorem badTop_len {o a p : Int} {t : Bool} {n : Int} (h : badTop o a p t n = false) : n = 0 ∨ n = 2 := by
  unfold badTop at h
  cases e : (decide (o = 2) || decide (o = 3)) <;> simp [e] at h <;> omega
mutual
/-- what the reference's planSize returns -/
def psz : Plan → Int
  | .mk o a p t kids => if badTop o a p t kids.length = true then -1 else pszs kids 1
def pszs : List Plan → Int → Int
  | [], n => if 255 < n then -1 else n
  | k :: r, n => if psz k < 0 then -1 else pszs r (n + psz k)
end
mutual
theorem psz_le : ∀ p, psz p ≤ 255
  | .mk o a p t kids => by simp only [psz]; split; omega; exact pszs_le kids 1
theorem pszs_le : ∀ l n, pszs l n ≤ 255
  | [], n => by simp only [pszs]; split <;> omega
  | k :: r, n => by simp only [pszs]; split; omega; exact pszs_le r _
end
/-- what the program's countParts returns -/
def cnt : Plan → Int → Int
  | .mk o a p t kids, room =>
    if room < 1 then -1 else
    if badTop o a p t kids.length = true then -1 else
    match kids with
    | [k0, k1] => if cnt k0 (room - 1) < 0 then -1 else if cnt k1 (room - 1 - cnt k0 (room - 1)) < 0 then -1 else 1 + cnt k0 (room - 1) + cnt k1 (room - 1 - cnt k0 (room - 1))
    | _ => 1
theorem badTop_BT (b : BT) : ∃ o a p t kids, b.plan = .mk o a p t kids ∧ badTop o a p t kids.length = false := by
  cases b with
  | w => exact ⟨_, _, _, _, _, rfl, rfl⟩
  | p i t => exact ⟨_, _, _, _, _, rfl, rfl⟩
  | c d a l r => exact ⟨_, _, _, _, _, rfl, by cases d <;> rfl⟩
theorem cnt_BT : ∀ (b : BT) (room : Int), cnt b.plan room = if b.sz ≤ room then b.sz else -1
  | .w, room => by
    show (if room < 1 then -1 else 1 : Int) = if (1 : Int) ≤ room then 1 else -1
    split <;> split <;> omega
  | .p i t, room => by
    show (if room < 1 then -1 else 1 : Int) = if (1 : Int) ≤ room then 1 else -1
    split <;> split <;> omega
  | .c d a l r, room => by
    have hb : badTop (opOf d) a 0 false ((2 : Nat) : Int) = false := by cases d <;> rfl
    have h1 := l.sz_pos
    have h2 := r.sz_pos
    have es : (BT.c d a l r).sz = 1 + l.sz + r.sz := rfl
    generalize (BT.c d a l r).sz = s at es
    have e : cnt (BT.c d a l r).plan room = if room < 1 then -1 else if badTop (opOf d) a 0 false ((2 : Nat) : Int) = true then -1 else
      if cnt l.plan (room - 1) < 0 then -1 else if cnt r.plan (room - 1 - cnt l.plan (room - 1)) < 0 then -1 else 1 + cnt l.plan (room - 1) + cnt r.plan (room - 1 - cnt l.plan (room - 1)) := by
      simp only [BT.plan, cnt]; rfl
    rw [e, hb, cnt_BT l, cnt_BT r]
    by_cases e0 : room < 1
    · rw [if_pos e0, if_neg (by omega)]
    · rw [if_neg e0, if_neg (by simp)]
      by_cases e1 : l.sz ≤ room - 1
      · simp only [e1, if_true]
        rw [if_neg (by omega)]
        by_cases e2 : r.sz ≤ room - 1 - l.sz
        · simp only [e2, if_true]; rw [if_neg (by omega), if_pos (by omega)]; omega
        · simp only [e2, if_false]; rw [if_pos (by omega), if_neg (by omega)]
      · simp only [e1, if_false]; rw [if_pos (by omega), if_neg (by omega)]
theorem psz_BT : ∀ (b : BT), psz b.plan = if b.sz ≤ 255 then b.sz else -1
  | .w => rfl
  | .p i t => by simp [BT.plan, psz, badTop, pszs, BT.sz]
  | .c d a l r => by
    have hb : badTop (opOf d) a 0 false ((2 : Nat) : Int) = false := by cases d <;> rfl
    have h1 := l.sz_pos
    have h2 := r.sz_pos
    have es : (BT.c d a l r).sz = 1 + l.sz + r.sz := rfl
    generalize (BT.c d a l r).sz = s at es
    have e : psz (BT.c d a l r).plan = if badTop (opOf d) a 0 false ((2 : Nat) : Int) = true then -1 else
      if psz l.plan < 0 then -1 else if psz r.plan < 0 then -1 else if 255 < 1 + psz l.plan + psz r.plan then -1 else 1 + psz l.plan + psz r.plan := by
      simp only [BT.plan, psz, pszs]; rfl
    rw [e, hb, psz_BT l, psz_BT r, if_neg (by simp)]
    by_cases e1 : l.sz ≤ 255
    · simp only [e1, if_true]
      rw [if_neg (by omega)]
      by_cases e2 : r.sz ≤ 255
      · simp only [e2, if_true]
        rw [if_neg (by omega)]
        by_cases e3 : 255 < 1 + l.sz + r.sz
        · rw [if_pos e3, if_neg (by omega)]
        · rw [if_neg e3, if_pos (by omega)]; omega
      · simp only [e2, if_false]; rw [if_pos (by omega), if_neg (by omega)]
    · simp only [e1, if_false]; rw [if_pos (by omega), if_neg (by omega)]
theorem BT.of_top {o a p : Int} {t : Bool} {kids : List Plan} (hb : badTop o a p t kids.length = false) (hk : ∀ k ∈ kids, ∃ b : BT, k = b.plan) : ∃ b : BT, Plan.mk o a p t kids = b.plan := by
  unfold badTop at hb
  by_cases ho : o = 2 ∨ o = 3
  · have e : (decide (o = 2) || decide (o = 3)) = true := by simpa using ho
    rw [e] at hb
    simp at hb
    obtain ⟨⟨h1, rfl⟩, rfl⟩ := hb
    match kids, h1, hk with
    | [k0, k1], _, hk =>
      obtain ⟨l, rfl⟩ := hk k0 (by simp)
      obtain ⟨r, rfl⟩ := hk k1 (by simp)
      rcases ho with rfl | rfl
      · exact ⟨.c true a l r, rfl⟩
      · exact ⟨.c false a l r, rfl⟩
    | [], h, _ => simp only [List.length_nil] at h; omega
    | [_], h, _ => simp only [List.length_cons, List.length_nil] at h; omega
    | _ :: _ :: _ :: _, h, _ => simp only [List.length_cons] at h; omega
  · have e : (decide (o = 2) || decide (o = 3)) = false := by simpa using ho
    rw [e] at hb
    simp at hb
    obtain ⟨⟨h1, rfl⟩, h2⟩ := hb
    have hk0 : kids = [] := h1
    subst hk0
    by_cases h3 : o = 1
    · subst h3; exact ⟨.p p t, rfl⟩
    · obtain ⟨⟨rfl, rfl⟩, rfl⟩ := h2 h3; exact ⟨.w, rfl⟩
theorem BT.of_cnt : ∀ (p : Plan) (room : Int), 0 ≤ cnt p room → ∃ b : BT, p = b.plan
  | .mk o a q t kids, room, h => by
    unfold cnt at h
    split at h
    · omega
    split at h
    · omega
    rename_i hb
    have hb' : badTop o a q t kids.length = false := by simpa using hb
    refine BT.of_top hb' ?_
    split at h
    · rename_i k0 k1
      split at h
      · omega
      split at h
      · omega
      intro k hk
      simp at hk
      rcases hk with hk | hk
      · rw [hk]; exact BT.of_cnt k0 (room - 1) (by omega)
      · rw [hk]; exact BT.of_cnt k1 (room - 1 - cnt k0 (room - 1)) (by omega)
    · rename_i hne
      have := badTop_len hb'
      intro k hk
      match kids, this with
      | [], _ => cases hk
      | [k0, k1], _ => exact absurd rfl (hne k0 k1)
      | [_], h => simp only [List.length_cons, List.length_nil] at h; omega
      | _ :: _ :: _ :: _, h => simp only [List.length_cons] at h; omega
mutual
theorem BT.of_psz : ∀ (p : Plan), 0 ≤ psz p → ∃ b : BT, p = b.plan
  | .mk o a q t kids, h => by
    unfold psz at h
    split at h
    · omega
    rename_i hb
    exact BT.of_top (by simpa using hb) (BT.of_pszs kids 1 h)
theorem BT.of_pszs : ∀ (l : List Plan) (n : Int), 0 ≤ pszs l n → ∀ k ∈ l, ∃ b : BT, k = b.plan
  | [], _, _, k, hk => by cases hk
  | q :: r, n, h, k, hk => by
    unfold pszs at h
    split at h
    · omega
    rcases List.mem_cons.1 hk with hk | hk
    · rw [hk]; exact BT.of_psz q (by omega)
    · exact BT.of_pszs r _ h k hk
end
theorem cnt_neg {p : Plan} {room : Int} (h : cnt p room < 0) : cnt p room = -1 := by
  cases p with | mk o a p t kids =>
  unfold cnt at h ⊢
  repeat' split
  all_goals (try rfl)
  all_goals (simp_all <;> omega)
theorem psz_neg {p : Plan} (h : psz p < 0) : psz p = -1 := by
  rcases Int.lt_or_le (psz p) (-1) with h1 | h1
  · exfalso
    have key : ∀ l n, 0 ≤ n → -1 ≤ pszs l n := by
      intro l
      induction l with
      | nil => intro n hn; simp only [pszs]; split <;> omega
      | cons k r ih => intro n hn; simp only [pszs]; split; omega; exact ih _ (by omega)
    cases p with | mk o a p t kids =>
    unfold psz at h1
    split at h1
    · omega
    · have := key kids 1 (by omega); omega
  · omega
theorem cnt_psz (p : Plan) : cnt p 255 = psz p := by
  rcases Int.lt_or_le (cnt p 255) 0 with h | h
  · rw [cnt_neg h]
    rcases Int.lt_or_le (psz p) 0 with h2 | h2
    · rw [psz_neg h2]
    · obtain ⟨b, rfl⟩ := BT.of_psz p h2
      rw [cnt_BT, ← psz_BT] at h; omega
  · obtain ⟨b, rfl⟩ := BT.of_cnt p 255 h
    rw [cnt_BT, psz_BT]
/-- a well formed plan that is read is a tree that is read -/
theorem RdT.of {h : Hp} : ∀ (b : BT) {cs : List Value}, RdPlan h cs b.plan → RdT h cs b
  | .w, cs, r => by
    obtain ⟨o, a, p, t, kids, v, css, e, rfl, ho, ha, hp, hr, hk⟩ := r.inv
    injection e with e1 e2 e3 e4 e5
    subst e1; subst e2; subst e3; subst e4; subst e5
    have := hk.length
    obtain ⟨⟨x, y, rfl, _⟩, _⟩ := hr
    simp only [this, List.length_nil]
    exact .w
  | .p i t, cs, r => by
    obtain ⟨o, a, p, t, kids, v, css, e, rfl, ho, ha, hp, hr, hk⟩ := r.inv
    injection e with e1 e2 e3 e4 e5
    subst e1; subst e2; subst e3; subst e4; subst e5
    have := hk.length
    obtain ⟨⟨x, y, rfl, _⟩, _⟩ := hr
    simp only [this, List.length_nil]
    exact .p hp
  | .c d a l r, cs, q => by
    obtain ⟨o, a, p, t, kids, v, css, e, rfl, ho, ha, hp, hr, hk⟩ := q.inv
    injection e with e1 e2 e3 e4 e5
    subst e1; subst e2; subst e3; subst e4; subst e5
    cases hk with | cons h0 hk => cases hk with | cons h1 hk => cases hk with | nil =>
    obtain ⟨⟨x, y, rfl, hcap, hrow⟩, _⟩ := hr
    rcases hrow with e | ⟨b, o, rfl, hrow⟩
    · cases e
    · exact .c ha hcap.2 hrow (RdT.of l h0) (RdT.of r h1)
end Go.Proofs.Ytlpjienaennmaaa
