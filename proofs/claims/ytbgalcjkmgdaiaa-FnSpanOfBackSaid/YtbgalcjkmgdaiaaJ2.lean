/-
  Best orders of jobs: the reference's contract; the exact law.
-/
import Derived.Test.YtbgalcjkmgdaiaaJ1
import Derived.Test.YtbgalcjkmgdaiaaA7
namespace Go.Proofs.Ytbgalcjkmgdaiaa
open Go
set_option maxRecDepth 20000
set_option maxHeartbeats 2000000

theorem ins_stop' {lt : Int → Int → Bool} {x : Int} {a : List Int} (h : ∀ y ∈ a, lt x y = false) : ∀ b : List Int, ins lt x (b ++ a) = ins lt x b ++ a
  | [] => by
    cases a with
    | nil => rfl
    | cons y r => simp only [List.nil_append, ins, h y List.mem_cons_self, Bool.false_eq_true, if_false]; rfl
  | z :: b => by
    simp only [List.cons_append, ins]
    split
    · rw [ins_stop' h b]; rfl
    · rfl
theorem ins_pass {lt : Int → Int → Bool} {x : Int} {a : List Int} : ∀ {b : List Int}, (∀ y ∈ b, lt x y = true) → ins lt x (b ++ a) = b ++ ins lt x a
  | [], _ => rfl
  | z :: b, h => by
    simp only [List.cons_append, ins, h z List.mem_cons_self, if_true]
    rw [ins_pass fun y hy => h y (List.mem_cons_of_mem _ hy)]
theorem ins_same {lt lt' : Int → Int → Bool} {x : Int} : ∀ {p : List Int}, (∀ y ∈ p, lt x y = lt' x y) → ins lt x p = ins lt' x p
  | [], _ => rfl
  | z :: p, h => by
    simp only [ins, h z List.mem_cons_self]
    rw [ins_same fun y hy => h y (List.mem_cons_of_mem _ hy)]
/-- an order by two classes -/
theorem insAll_two {lt lt' : Int → Int → Bool} {F : Int → Bool} (h1 : ∀ x y, F x = F y → lt x y = lt' x y) (h2 : ∀ x y, F x = true → F y = false → lt x y = true) (h3 : ∀ x y, F x = false → F y = true → lt x y = false) :
    ∀ r : List Int, insAll lt [] r = insAll lt' [] (r.filter F) ++ insAll lt' [] (r.filter fun x => !F x) := by
  intro r
  suffices ∀ r p q : List Int, (∀ y ∈ p, F y = true) → (∀ y ∈ q, F y = false) → insAll lt (p ++ q) r = insAll lt' p (r.filter F) ++ insAll lt' q (r.filter fun x => !F x) by
    simpa using this r [] [] (by simp) (by simp)
  intro r
  induction r with
  | nil => intro p q _ _; simp [insAll]
  | cons x r ih =>
    intro p q hp hq
    cases hx : F x with
    | true =>
      have e : (ins lt x (p ++ q).reverse).reverse = (ins lt' x p.reverse).reverse ++ q := by
        rw [List.reverse_append, ins_pass (fun y hy => h2 x y hx (hq y (List.mem_reverse.1 hy))), ins_same (fun y hy => h1 x y (by rw [hx, hp y (List.mem_reverse.1 hy)]))]
        simp
      simp only [insAll, List.filter_cons, hx, Bool.not_true, Bool.false_eq_true, if_false, if_true]
      rw [e]
      refine ih _ _ (fun y hy => ?_) hq
      rcases ins_mem.1 (List.mem_reverse.1 hy) with rfl | hy
      · exact hx
      · exact hp y (List.mem_reverse.1 hy)
    | false =>
      have e : (ins lt x (p ++ q).reverse).reverse = p ++ (ins lt' x q.reverse).reverse := by
        rw [List.reverse_append, ins_stop' (fun y hy => h3 x y hx (hp y (List.mem_reverse.1 hy))), ins_same (fun y hy => h1 x y (by rw [hx, hq y (List.mem_reverse.1 hy)]))]
        simp
      simp only [insAll, List.filter_cons, hx, Bool.not_false, Bool.false_eq_true, if_false, if_true]
      rw [e]
      refine ih _ _ hp (fun y hy => ?_)
      rcases ins_mem.1 (List.mem_reverse.1 hy) with rfl | hy
      · exact hx
      · exact hq y (List.mem_reverse.1 hy)
theorem insAll_apart {lt' : Int → Int → Bool} {F : Int → Bool} (h : ∀ x y, F x = false → F y = true → lt' x y = false) : ∀ (r p q : List Int), (∀ y ∈ p, F y = true) → (∀ y ∈ q, F y = false) → (∀ x ∈ r, F x = false) → insAll lt' (p ++ q) r = p ++ insAll lt' q r
  | [], _, _, _, _, _ => rfl
  | x :: r, p, q, hp, hq, hr => by
    have hx := hr x List.mem_cons_self
    have e : (ins lt' x (p ++ q).reverse).reverse = p ++ (ins lt' x q.reverse).reverse := by
      rw [List.reverse_append, ins_stop' (fun y hy => h x y hx (hp y (List.mem_reverse.1 hy)))]
      simp
    rw [insAll, insAll, e]
    refine insAll_apart h r p _ hp (fun y hy => ?_) fun z hz => hr z (List.mem_cons_of_mem _ hz)
    rcases ins_mem.1 (List.mem_reverse.1 hy) with rfl | hy
    · exact hx
    · exact hq y (List.mem_reverse.1 hy)
def fstJ (l : List Job) (x : Int) : Bool := decide ((gj l x).Cut < (gj l x).Heat)
/-- as the reference compares: x goes before y -/
def ltK (l : List Job) (x y : Int) : Bool := decide (fstJ l y = fstJ l x) && (if fstJ l x = true then decide ((gj l x).Cut < (gj l y).Cut) else decide ((gj l y).Heat < (gj l x).Heat))
def seqJ (l : List Job) (e k : Nat) : List Int := if e = 0 then (upN k).filter (fstJ l) else (upN l.length).filter (fstJ l) ++ (upN k).filter fun x => !fstJ l x
theorem cmp_class {a b : Job} (h : decide (a.Cut < a.Heat) = decide (b.Cut < b.Heat)) : decide (cmpJ a b < 0) = (decide (decide (b.Cut < b.Heat) = decide (a.Cut < a.Heat)) && (if decide (a.Cut < a.Heat) = true then decide (a.Cut < b.Cut) else decide (b.Heat < a.Heat))) := by
  have h' : (a.Cut < a.Heat) ↔ (b.Cut < b.Heat) := by simpa using h
  rw [Bool.eq_iff_iff]
  by_cases hx : a.Cut < a.Heat
  · have hy := h'.1 hx
    simp [cmpJ, hx, hy]; omega
  · have hy : ¬ b.Cut < b.Heat := fun h => hx (h'.2 h)
    simp [cmpJ, hx, hy]; omega
theorem cmp_tf {a b : Job} (hx : decide (a.Cut < a.Heat) = true) (hy : decide (b.Cut < b.Heat) = false) : decide (cmpJ a b < 0) = true := by
  simp only [decide_eq_true_eq, decide_eq_false_iff_not] at hx hy
  simp [cmpJ, hx, hy]
theorem cmp_ft {a b : Job} (hx : decide (a.Cut < a.Heat) = false) (hy : decide (b.Cut < b.Heat) = true) : decide (cmpJ a b < 0) = false := by
  simp only [decide_eq_true_eq, decide_eq_false_iff_not] at hx hy
  simp [cmpJ, hx, hy]
theorem boS (l : List Job) : insAll (ltK l) [] (seqJ l 1 l.length) = idxBy (ltJ l) l.length := by
  rw [idxBy, insAll_two (lt := ltJ l) (lt' := ltK l) (F := fstJ l)]
  · rw [seqJ, if_neg (by decide), insAll_append]
    have hA : ∀ y ∈ insAll (ltK l) [] ((upN l.length).filter (fstJ l)), fstJ l y = true := fun y hy => by
      rcases insAll_mem.1 hy with h | h
      · cases h
      · exact (List.mem_filter.1 h).2
    have := insAll_apart (lt' := ltK l) (F := fstJ l) (fun x y h1 h2 => by simp [ltK, h1, h2]) ((upN l.length).filter fun x => !fstJ l x) (insAll (ltK l) [] ((upN l.length).filter (fstJ l))) [] hA (by simp) (fun x hx => by simpa using (List.mem_filter.1 hx).2)
    rwa [List.append_nil] at this
  · intro x y h; exact cmp_class h
  · intro x y hx hy; exact cmp_tf hx hy
  · intro x y hx hy; exact cmp_ft hx hy
theorem comesAfter_ok {A : Amb} {a b : Job} {f : Bool} : Ctr Try.prog 69 #[.agg #[vI a.Cut, vI a.Heat], .agg #[vI b.Cut, vI b.Heat], .bool f] A [] (Val (.bool (if f = true then decide (b.Cut < a.Cut) else decide (a.Heat < b.Heat)))) := by
  cases f
  · refine Ctr.body (args := [_, _, _]) Try.func69 rfl Try.ntmps69 Try.results69 (by simp) ?_
    refine CJ.seq ?_
    refine CJ.region ?_
    refine LJ.boxG (vs := [_, _]) rfl rfl (fun b1 => ?_)
    refine LJ.boxG (vs := [_, _]) rfl rfl (fun b2 => ?_)
    refine LJ.yd rfl (Yd.asB rfl) ?_
    refine LJ.nil ?_
    refine CJ.seq ?_
    refine CJ.seq ?_
    refine CJ.region ?_
    refine LJ.yd rfl (Yd.mvB rfl) ?_
    refine LJ.nil ?_
    refine CJ.condF rfl ?_
    refine CJ.skip ?_
    refine CJ.seq ?_
    refine CJ.region ?_
    refine LJ.yd rfl (Yd.fieldAddr rfl) ?_
    refine LJ.yd rfl (Yd.loadC 0 rfl rfl rfl) ?_
    refine LJ.yd rfl (Yd.fieldAddr rfl) ?_
    refine LJ.yd rfl (Yd.loadC 1 rfl rfl rfl) ?_
    refine LJ.yd rfl (Yd.lss rfl rfl) ?_
    refine LJ.yd rfl (Yd.asB rfl) ?_
    refine LJ.nil ?_
    refine CJ.ret ?_
    refine Fin.V (Res.one (ResV.tmp (v := .bool _) rfl)) ?_
    rfl
  · refine Ctr.body (args := [_, _, _]) Try.func69 rfl Try.ntmps69 Try.results69 (by simp) ?_
    refine CJ.seq ?_
    refine CJ.region ?_
    refine LJ.boxG (vs := [_, _]) rfl rfl (fun b1 => ?_)
    refine LJ.boxG (vs := [_, _]) rfl rfl (fun b2 => ?_)
    refine LJ.yd rfl (Yd.asB rfl) ?_
    refine LJ.nil ?_
    refine CJ.seq ?_
    refine CJ.seq ?_
    refine CJ.region ?_
    refine LJ.yd rfl (Yd.mvB rfl) ?_
    refine LJ.nil ?_
    refine CJ.condT rfl ?_
    refine CJ.seq ?_
    refine CJ.region ?_
    refine LJ.yd rfl (Yd.fieldAddr rfl) ?_
    refine LJ.yd rfl (Yd.loadC 0 rfl rfl rfl) ?_
    refine LJ.yd rfl (Yd.fieldAddr rfl) ?_
    refine LJ.yd rfl (Yd.loadC 1 rfl rfl rfl) ?_
    refine LJ.yd rfl (Yd.gtr rfl rfl) ?_
    refine LJ.yd rfl (Yd.asB rfl) ?_
    refine LJ.nil ?_
    refine CJ.ret ?_
    refine Fin.V (Res.one (ResV.tmp (v := .bool _) rfl)) ?_
    rfl
theorem seqJ_mem {l : List Job} {e k : Nat} (hk : k ≤ l.length) {z : Int} (hz : z ∈ seqJ l e k) : 0 ≤ z ∧ z < l.length := by
  unfold seqJ at hz
  split at hz
  · have := upN_mem.1 (List.mem_filter.1 hz).1; omega
  · rcases List.mem_append.1 hz with h | h
    · exact upN_mem.1 (List.mem_filter.1 h).1
    · have := upN_mem.1 (List.mem_filter.1 h).1; omega
theorem seqJ_succ {l : List Job} {e k : Nat} : seqJ l e (k + 1) = seqJ l e k ++ if fstJ l k = decide (e = 0) then [(k : Int)] else [] := by
  by_cases he : e = 0
  · subst he
    simp only [seqJ, if_true, upN_succ, List.filter_append, decide_true]
    cases h : fstJ l k <;> simp [List.filter_cons, h]
  · have hd : decide (e = 0) = false := by simpa using he
    rw [hd]
    simp only [seqJ, if_neg he, upN_succ, List.filter_append, List.append_assoc]
    cases h : fstJ l k <;> simp [List.filter_cons, h]
theorem bestOrder_ok {A : Amb} {v : Value} {l : List Job} (hl : RdL Job.enc 2 A.h v l) (hn : l.length ≤ 1000) : Ctr Try.prog 58 #[v] A [] (RLP encI 3 1 (idxBy (ltJ l) l.length)) := by
  obtain ⟨la, lc, rfl, hlb, hl⟩ := hl.un
  rw [← boS]
  refine Ctr.body (args := [_]) Try.func58 rfl Try.ntmps58 Try.results58 (by simp) ?_
  refine CJ.seq ?_
  refine CJ.region ?_
  refine LJ.yd rfl (Yd.asS rfl) ?_
  refine LJ.nil ?_
  refine CJ.seq ?_
  refine CJ.region ?_
  refine LJ.op rfl (OpR.buildSlice (cs := []) rfl rfl) ?_
  rintro _ _ ⟨b1, rfl, rfl⟩
  refine LJ.yd rfl (Yd.asS rfl) ?_
  refine LJ.nil ?_
  refine CJ.seq ?_
  refine CJ.seq ?_
  refine CJ.region ?_
  refine LJ.yd rfl (Yd.asI rfl) ?_
  refine LJ.nil ?_
  refine CJ.block ?_
  refine CJ.imp1 0 rfl (fun _ h => Cel.lr (enc := encI) (k := 1) (m := 0) [] rfl rfl rfl rfl h) ?_
  refine CJ.norm [_] rfl ?_
  refine CJ.loopF [0, 2] (Nat × List Int × Option Addr × Nat × Nat) (fun ⟨e, p, pA, pN, pC⟩ => (pN = p.length) ∧ e ≤ 2 ∧ p = insAll (ltK l) [] (if e = 0 then [] else seqJ l (e - 1) l.length)) (fun ⟨e, p, pA, pN, pC⟩ => [(4, vI e), (3, .slice pA pN pC)]) (fun ⟨e, p, pA, pN, pC⟩ => [LR encI 3 1 pA pC p]) (fun ⟨e, p, pA, pN, pC⟩ => 2 - e) (0, [], _, _, _) [] [] [0] rfl rfl rfl ?_ ⟨rfl, rfl, trivial⟩ ?_
  · exact ⟨(by first | rfl | omega | (simp; done) | (simp; omega) | (simp [upN_len]; omega) | (simp [idxBy_len]; omega) | (simp [marks_len]; omega) | (simp [upN_len]; done) | (simp [idxBy_len]; done) | (simp [marks_len]; done) | (simp at *; omega)), ⟨by omega, by rfl⟩⟩
  · rintro ⟨e, p, pA, pN, pC⟩ σ ⟨hlNp, ⟨he, hp⟩⟩
    subst hlNp
    refine CJ.norm [_] rfl ?_
    refine CJ.seq ?_
    refine CJ.seq ?_
    refine CJ.region ?_
    refine LJ.yd rfl (Yd.mvI rfl) ?_
    refine LJ.splitD rfl (Yd.lss rfl rfl) (fun h11 => ?_) (fun h11 => ?_)
    · refine LJ.nil ?_
      refine CJ.condT rfl ?_
      refine CJ.skip ?_
      refine CJ.seq ?_
      refine CJ.block ?_
      refine CJ.seq ?_
      refine CJ.region ?_
      refine LJ.yd rfl (Yd.asI rfl) ?_
      refine LJ.nil ?_
      refine CJ.block ?_
      refine CJ.loopF [0, 2, 4, 10, 11] (Nat × List Int × Option Addr × Nat × Nat) (fun ⟨k, p, pA, pN, pC⟩ => (pN = p.length) ∧ k ≤ l.length ∧ p = insAll (ltK l) [] (seqJ l e k)) (fun ⟨k, p, pA, pN, pC⟩ => [(5, vI k), (3, .slice pA pN pC)]) (fun ⟨k, p, pA, pN, pC⟩ => [LR encI 3 1 pA pC p]) (fun ⟨k, p, pA, pN, pC⟩ => l.length - k) (0, p, _, _, _) [] [] [0] rfl rfl rfl ?_ ⟨rfl, rfl, trivial⟩ ?_
      · exact ⟨(by first | rfl | omega | (simp; done) | (simp; omega) | (simp [upN_len]; omega) | (simp [idxBy_len]; omega) | (simp [marks_len]; omega) | (simp [upN_len]; done) | (simp [idxBy_len]; done) | (simp [marks_len]; done) | (simp at *; omega)), ⟨by omega, by rw [hp]; congr 1; rcases (by omega : e = 0 ∨ e = 1) with rfl | rfl <;> simp [seqJ, upN]⟩⟩
      · rintro ⟨k, p, pA, pN, pC⟩ σ ⟨hlNp, ⟨hk, hp2⟩⟩
        subst hlNp
        refine CJ.norm [_] rfl ?_
        have hpm : ∀ z ∈ p, 0 ≤ z ∧ z < l.length := fun z hz => by
          rw [hp2] at hz
          rcases insAll_mem.1 hz with h | h
          · cases h
          · exact seqJ_mem hk h
        have hpl : p.length ≤ 2 * l.length := by
          rw [hp2, insAll_length]
          unfold seqJ
          have h1 := List.length_filter_le (fstJ l) (upN k)
          have h2 := List.length_filter_le (fstJ l) (upN l.length)
          have h3 := List.length_filter_le (fun x => !fstJ l x) (upN k)
          rw [upN_len] at h1 h2 h3
          split <;> simp only [List.length_nil, List.length_append] <;> omega
        refine CJ.seq ?_
        refine CJ.seq ?_
        refine CJ.region ?_
        refine LJ.yd rfl (Yd.mvI rfl) ?_
        refine LJ.yd rfl (Yd.mvS rfl) ?_
        refine LJ.yd rfl (Yd.len rfl) ?_
        refine LJ.splitD rfl (Yd.lss rfl rfl) (fun h17 => ?_) (fun h17 => ?_)
        · refine LJ.nil ?_
          refine CJ.condT rfl ?_
          refine CJ.skip ?_
          refine CJ.seq ?_
          refine CJ.block ?_
          refine CJ.seq ?_
          refine CJ.regionD [0] [] (by kernel_rfl) rfl ?_
          refine DJ.norm [_] [] rfl rfl ?_
          refine DJ.yd 0 rfl (by kernel_rfl) (by kernel_rfl) (by kernel_rfl) rfl rfl (Yd.mvS rfl) ?_
          refine DJ.yd 1 rfl (by kernel_rfl) (by kernel_rfl) (by kernel_rfl) rfl rfl (Yd.mvI rfl) ?_
          refine DJ.idxA 2 rfl (by kernel_rfl) (by kernel_rfl) (by kernel_rfl) rfl rfl hl rfl rfl (by omega) (by first | rfl | omega | (simp; done) | (simp; omega) | (simp [upN_len]; omega) | (simp [idxBy_len]; omega) | (simp [marks_len]; omega) | (simp [upN_len]; done) | (simp [idxBy_len]; done) | (simp [marks_len]; done) | (simp at *; omega)) (fun ib22 io22 ia22 ir22 => ?_)
          refine DJ.yd 3 rfl (by kernel_rfl) (by kernel_rfl) (by kernel_rfl) rfl rfl (Yd.fieldAddr rfl) ?_
          refine DJ.ldA 4 rfl (by kernel_rfl) (by kernel_rfl) (by kernel_rfl) rfl rfl 0 (fun u => vI u.Cut) (fun _ => rfl) ir22 rfl rfl (by first | rfl | omega | (simp; done) | (simp; omega) | (simp [upN_len]; omega) | (simp [idxBy_len]; omega) | (simp [marks_len]; omega) | (simp [upN_len]; done) | (simp [idxBy_len]; done) | (simp [marks_len]; done) | (simp at *; omega)) (fun u24 hu24 => ?_)
          try simp only [Int.toNat_natCast] at hu24
          refine DJ.yd 5 rfl (by kernel_rfl) (by kernel_rfl) (by kernel_rfl) rfl rfl (Yd.mvS rfl) ?_
          refine DJ.yd 6 rfl (by kernel_rfl) (by kernel_rfl) (by kernel_rfl) rfl rfl (Yd.mvI rfl) ?_
          refine DJ.idxA 7 rfl (by kernel_rfl) (by kernel_rfl) (by kernel_rfl) rfl rfl hl rfl rfl (by omega) (by first | rfl | omega | (simp; done) | (simp; omega) | (simp [upN_len]; omega) | (simp [idxBy_len]; omega) | (simp [marks_len]; omega) | (simp [upN_len]; done) | (simp [idxBy_len]; done) | (simp [marks_len]; done) | (simp at *; omega)) (fun ib27 io27 ia27 ir27 => ?_)
          refine DJ.yd 8 rfl (by kernel_rfl) (by kernel_rfl) (by kernel_rfl) rfl rfl (Yd.fieldAddr rfl) ?_
          refine DJ.ldA 9 rfl (by kernel_rfl) (by kernel_rfl) (by kernel_rfl) rfl rfl 1 (fun u => vI u.Heat) (fun _ => rfl) ir27 rfl rfl (by first | rfl | omega | (simp; done) | (simp; omega) | (simp [upN_len]; omega) | (simp [idxBy_len]; omega) | (simp [marks_len]; omega) | (simp [upN_len]; done) | (simp [idxBy_len]; done) | (simp [marks_len]; done) | (simp at *; omega)) (fun u29 hu29 => ?_)
          try simp only [Int.toNat_natCast] at hu29
          obtain rfl : u24 = u29 := by rw [hu24] at hu29; exact Option.some.inj hu29
          refine DJ.splitD 10 rfl (by kernel_rfl) (by kernel_rfl) (by kernel_rfl) rfl rfl (Yd.lss rfl rfl) (fun h30 => ?_) (fun h30 => ?_)
          · refine DJ.yd 11 rfl (by kernel_rfl) (by kernel_rfl) (by kernel_rfl) rfl rfl (Yd.asB rfl) ?_
            refine DJ.done (by kernel_rfl) ?_
            refine CJ.seq ?_
            refine CJ.seq ?_
            refine CJ.region ?_
            refine LJ.yd rfl (Yd.mvB rfl) ?_
            refine LJ.yd rfl (Yd.mvI rfl) ?_
            refine LJ.splitD rfl (Yd.eql rfl rfl) (fun h33 => ?_) (fun h33 => ?_)
            · refine LJ.yd rfl (Yd.cmpT (Yd.eqlB rfl rfl) (by decide)) ?_
              refine LJ.nil ?_
              refine CJ.condT rfl ?_
              refine CJ.exit ?_
              refine CJ.region ?_
              refine LJ.yd rfl (Yd.mvI rfl) ?_
              refine LJ.yd rfl (Yd.add rfl rfl (by unfold I64; omega)) ?_
              refine LJ.yd rfl (Yd.asI rfl) ?_
              refine LJ.nil ?_
              refine ⟨(k + 1, _, _, _, _), ?_, ⟨rfl, rfl, rfl, rfl, rfl, trivial⟩, ⟨rfl, rfl, trivial⟩, Ent.refl _, ?_⟩
              · refine ⟨(by first | rfl | omega | (simp; done) | (simp; omega) | (simp [upN_len]; omega) | (simp [idxBy_len]; omega) | (simp [marks_len]; omega) | (simp [upN_len]; done) | (simp [idxBy_len]; done) | (simp [marks_len]; done) | (simp at *; omega)), ?_⟩
                refine ⟨by omega, ?_⟩
                first
                  | (rw [seqJ_succ, if_neg (by simp only [fstJ, gjC' hu24]; simp [h30]; omega), List.append_nil]; exact hp2)
                  | (rw [seqJ_succ, if_pos (by simp only [fstJ, gjC' hu24]; simp [h30]; omega), insAll_append, ← hp2, insAll, insAll, hsm86, ← e2]; simp)
              · first | omega | (dsimp only; omega) | (simp only []; omega)
            · refine LJ.yd rfl (Yd.cmpF (Yd.eqlB rfl rfl) (by decide)) ?_
              refine LJ.nil ?_
              refine CJ.condF rfl ?_
              refine CJ.skip ?_
              refine CJ.seq ?_
              refine CJ.region ?_
              refine LJ.yd rfl (Yd.mvS rfl) ?_
              refine LJ.yd rfl (Yd.len rfl) ?_
              refine LJ.yd rfl (Yd.asI rfl) ?_
              refine LJ.nil ?_
              refine CJ.seq ?_
              refine CJ.block ?_
              refine CJ.loopK [0, 2, 3, 4, 5, 6, 10, 11, 14, 15, 16, 17, 20, 21, 22, 23, 24, 25, 26, 27, 28, 29, 30, 31, 32, 33, 34, 35, 36] Int (fun j => 0 ≤ j ∧ j ≤ p.length ∧ (ins (ltK l) k (p.take j.toNat).reverse).reverse ++ p.drop j.toNat = (ins (ltK l) k p.reverse).reverse) (fun j => [(7, vI j)]) (fun j => j.toNat) (p.length) ?_ ⟨rfl, trivial⟩ ?_
              · exact ⟨by omega, by omega, by rw [Int.toNat_natCast]; exact ins_full⟩
              · rintro j σ ⟨hj0, hj1, hj2⟩
                refine CJ.seq ?_
                refine CJ.seq ?_
                refine CJ.regionD [0] [] (by kernel_rfl) rfl ?_
                refine DJ.norm [_] [] rfl rfl ?_
                refine DJ.yd 0 rfl (by kernel_rfl) (by kernel_rfl) (by kernel_rfl) rfl rfl (Yd.mvI rfl) ?_
                refine DJ.splitD 1 rfl (by kernel_rfl) (by kernel_rfl) (by kernel_rfl) rfl rfl (Yd.gtr rfl rfl) (fun h38 => ?_) (fun h38 => ?_)
                · refine DJ.yd 2 rfl (by kernel_rfl) (by kernel_rfl) (by kernel_rfl) rfl rfl (Yd.mvB rfl) ?_
                  refine DJ.yd 3 rfl (by kernel_rfl) (by kernel_rfl) (by kernel_rfl) rfl rfl (Yd.mvS rfl) ?_
                  refine DJ.yd 4 rfl (by kernel_rfl) (by kernel_rfl) (by kernel_rfl) rfl rfl (Yd.mvS rfl) ?_
                  refine DJ.yd 5 rfl (by kernel_rfl) (by kernel_rfl) (by kernel_rfl) rfl rfl (Yd.mvI rfl) ?_
                  refine DJ.yd 6 rfl (by kernel_rfl) (by kernel_rfl) (by kernel_rfl) rfl rfl (Yd.sub rfl rfl (by unfold I64; omega)) ?_
                  refine DJ.idxF 0 rfl 7 rfl (by kernel_rfl) (by kernel_rfl) (by kernel_rfl) rfl rfl rfl rfl (by omega) (by first | rfl | omega | (simp; done) | (simp; omega) | (simp [upN_len]; omega) | (simp [idxBy_len]; omega) | (simp [marks_len]; omega) | (simp [upN_len]; done) | (simp [idxBy_len]; done) | (simp [marks_len]; done) | (simp at *; omega)) (by first | rfl | omega | (simp; done) | (simp; omega) | (simp [upN_len]; omega) | (simp [idxBy_len]; omega) | (simp [marks_len]; omega) | (simp [upN_len]; done) | (simp [idxBy_len]; done) | (simp [marks_len]; done) | (simp at *; omega)) (fun ib44 ia44 => ?_)
                  refine DJ.ldF 8 rfl (by kernel_rfl) (by kernel_rfl) (by kernel_rfl) rfl rfl 0 0 (fun u => vI u) (fun _ => rfl) rfl ia44 rfl rfl (by first | rfl | omega | (simp; done) | (simp; omega) | (simp [upN_len]; omega) | (simp [idxBy_len]; omega) | (simp [marks_len]; omega) | (simp [upN_len]; done) | (simp [idxBy_len]; done) | (simp [marks_len]; done) | (simp at *; omega)) (fun u45 hu45 => ?_)
                  try simp only [Int.toNat_natCast] at hu45
                  have hf45 := hpm u45 (List.mem_of_getElem? hu45)
                  have e31 : (j - 1).toNat = j.toNat - 1 := by omega
                  rw [e31] at hu45
                  refine DJ.idxA 9 rfl (by kernel_rfl) (by kernel_rfl) (by kernel_rfl) rfl rfl hl rfl rfl (by omega) (by first | rfl | omega | (simp; done) | (simp; omega) | (simp [upN_len]; omega) | (simp [idxBy_len]; omega) | (simp [marks_len]; omega) | (simp [upN_len]; done) | (simp [idxBy_len]; done) | (simp [marks_len]; done) | (simp at *; omega)) (fun ib46 io46 ia46 ir46 => ?_)
                  refine DJ.yd 10 rfl (by kernel_rfl) (by kernel_rfl) (by kernel_rfl) rfl rfl (Yd.fieldAddr rfl) ?_
                  refine DJ.ldA 11 rfl (by kernel_rfl) (by kernel_rfl) (by kernel_rfl) rfl rfl 0 (fun u => vI u.Cut) (fun _ => rfl) ir46 rfl rfl (by first | rfl | omega | (simp; done) | (simp; omega) | (simp [upN_len]; omega) | (simp [idxBy_len]; omega) | (simp [marks_len]; omega) | (simp [upN_len]; done) | (simp [idxBy_len]; done) | (simp [marks_len]; done) | (simp at *; omega)) (fun u48 hu48 => ?_)
                  try simp only [Int.toNat_natCast] at hu48
                  refine DJ.yd 12 rfl (by kernel_rfl) (by kernel_rfl) (by kernel_rfl) rfl rfl (Yd.mvS rfl) ?_
                  refine DJ.yd 13 rfl (by kernel_rfl) (by kernel_rfl) (by kernel_rfl) rfl rfl (Yd.mvS rfl) ?_
                  refine DJ.yd 14 rfl (by kernel_rfl) (by kernel_rfl) (by kernel_rfl) rfl rfl (Yd.mvI rfl) ?_
                  refine DJ.yd 15 rfl (by kernel_rfl) (by kernel_rfl) (by kernel_rfl) rfl rfl (Yd.sub rfl rfl (by unfold I64; omega)) ?_
                  refine DJ.idxF 0 rfl 16 rfl (by kernel_rfl) (by kernel_rfl) (by kernel_rfl) rfl rfl rfl rfl (by omega) (by first | rfl | omega | (simp; done) | (simp; omega) | (simp [upN_len]; omega) | (simp [idxBy_len]; omega) | (simp [marks_len]; omega) | (simp [upN_len]; done) | (simp [idxBy_len]; done) | (simp [marks_len]; done) | (simp at *; omega)) (by first | rfl | omega | (simp; done) | (simp; omega) | (simp [upN_len]; omega) | (simp [idxBy_len]; omega) | (simp [marks_len]; omega) | (simp [upN_len]; done) | (simp [idxBy_len]; done) | (simp [marks_len]; done) | (simp at *; omega)) (fun ib53 ia53 => ?_)
                  refine DJ.ldF 17 rfl (by kernel_rfl) (by kernel_rfl) (by kernel_rfl) rfl rfl 0 0 (fun u => vI u) (fun _ => rfl) rfl ia53 rfl rfl (by first | rfl | omega | (simp; done) | (simp; omega) | (simp [upN_len]; omega) | (simp [idxBy_len]; omega) | (simp [marks_len]; omega) | (simp [upN_len]; done) | (simp [idxBy_len]; done) | (simp [marks_len]; done) | (simp at *; omega)) (fun u54 hu54 => ?_)
                  try simp only [Int.toNat_natCast] at hu54
                  rw [e31] at hu54
                  obtain rfl : u45 = u54 := by rw [hu45] at hu54; exact Option.some.inj hu54
                  refine DJ.idxA 18 rfl (by kernel_rfl) (by kernel_rfl) (by kernel_rfl) rfl rfl hl rfl rfl (by omega) (by first | rfl | omega | (simp; done) | (simp; omega) | (simp [upN_len]; omega) | (simp [idxBy_len]; omega) | (simp [marks_len]; omega) | (simp [upN_len]; done) | (simp [idxBy_len]; done) | (simp [marks_len]; done) | (simp at *; omega)) (fun ib55 io55 ia55 ir55 => ?_)
                  refine DJ.yd 19 rfl (by kernel_rfl) (by kernel_rfl) (by kernel_rfl) rfl rfl (Yd.fieldAddr rfl) ?_
                  refine DJ.ldA 20 rfl (by kernel_rfl) (by kernel_rfl) (by kernel_rfl) rfl rfl 1 (fun u => vI u.Heat) (fun _ => rfl) ir55 rfl rfl (by first | rfl | omega | (simp; done) | (simp; omega) | (simp [upN_len]; omega) | (simp [idxBy_len]; omega) | (simp [marks_len]; omega) | (simp [upN_len]; done) | (simp [idxBy_len]; done) | (simp [marks_len]; done) | (simp at *; omega)) (fun u57 hu57 => ?_)
                  try simp only [Int.toNat_natCast] at hu57
                  obtain rfl : u48 = u57 := by rw [hu48] at hu57; exact Option.some.inj hu57
                  refine DJ.splitD 21 rfl (by kernel_rfl) (by kernel_rfl) (by kernel_rfl) rfl rfl (Yd.lss rfl rfl) (fun h58 => ?_) (fun h58 => ?_)
                  · refine DJ.yd 22 rfl (by kernel_rfl) (by kernel_rfl) (by kernel_rfl) rfl rfl (Yd.mvB rfl) ?_
                    refine DJ.yd 23 rfl (by kernel_rfl) (by kernel_rfl) (by kernel_rfl) rfl rfl (Yd.cmpT (Yd.eqlB rfl rfl) (by decide)) ?_
                    refine DJ.yd 24 rfl (by kernel_rfl) (by kernel_rfl) (by kernel_rfl) rfl rfl (Yd.pickTB rfl rfl) ?_
                    refine DJ.yd 25 rfl (by kernel_rfl) (by kernel_rfl) (by kernel_rfl) rfl rfl (Yd.mvB rfl) ?_
                    refine DJ.yd 26 rfl (by kernel_rfl) (by kernel_rfl) (by kernel_rfl) rfl rfl (Yd.mvS rfl) ?_
                    refine DJ.yd 27 rfl (by kernel_rfl) (by kernel_rfl) (by kernel_rfl) rfl rfl (Yd.mvS rfl) ?_
                    refine DJ.yd 28 rfl (by kernel_rfl) (by kernel_rfl) (by kernel_rfl) rfl rfl (Yd.mvI rfl) ?_
                    refine DJ.yd 29 rfl (by kernel_rfl) (by kernel_rfl) (by kernel_rfl) rfl rfl (Yd.sub rfl rfl (by unfold I64; omega)) ?_
                    refine DJ.idxF 0 rfl 30 rfl (by kernel_rfl) (by kernel_rfl) (by kernel_rfl) rfl rfl rfl rfl (by omega) (by first | rfl | omega | (simp; done) | (simp; omega) | (simp [upN_len]; omega) | (simp [idxBy_len]; omega) | (simp [marks_len]; omega) | (simp [upN_len]; done) | (simp [idxBy_len]; done) | (simp [marks_len]; done) | (simp at *; omega)) (by first | rfl | omega | (simp; done) | (simp; omega) | (simp [upN_len]; omega) | (simp [idxBy_len]; omega) | (simp [marks_len]; omega) | (simp [upN_len]; done) | (simp [idxBy_len]; done) | (simp [marks_len]; done) | (simp at *; omega)) (fun ib67 ia67 => ?_)
                    refine DJ.ldF 31 rfl (by kernel_rfl) (by kernel_rfl) (by kernel_rfl) rfl rfl 0 0 (fun u => vI u) (fun _ => rfl) rfl ia67 rfl rfl (by first | rfl | omega | (simp; done) | (simp; omega) | (simp [upN_len]; omega) | (simp [idxBy_len]; omega) | (simp [marks_len]; omega) | (simp [upN_len]; done) | (simp [idxBy_len]; done) | (simp [marks_len]; done) | (simp at *; omega)) (fun u68 hu68 => ?_)
                    try simp only [Int.toNat_natCast] at hu68
                    rw [e31] at hu68
                    obtain rfl : u45 = u68 := by rw [hu45] at hu68; exact Option.some.inj hu68
                    refine DJ.idxA 32 rfl (by kernel_rfl) (by kernel_rfl) (by kernel_rfl) rfl rfl hl rfl rfl (by omega) (by first | rfl | omega | (simp; done) | (simp; omega) | (simp [upN_len]; omega) | (simp [idxBy_len]; omega) | (simp [marks_len]; omega) | (simp [upN_len]; done) | (simp [idxBy_len]; done) | (simp [marks_len]; done) | (simp at *; omega)) (fun ib69 io69 ia69 ir69 => ?_)
                    refine DJ.lgA 33 rfl (by kernel_rfl) (by kernel_rfl) (by kernel_rfl) rfl rfl (enc := Job.enc) (fun u => [vI u.Cut, vI u.Heat]) (fun _ => rfl) (fun _ => rfl) ir69 rfl rfl (by first | rfl | omega | (simp; done) | (simp; omega) | (simp [upN_len]; omega) | (simp [idxBy_len]; omega) | (simp [marks_len]; omega) | (simp [upN_len]; done) | (simp [idxBy_len]; done) | (simp [marks_len]; done) | (simp at *; omega)) (fun u70 hu70 => ?_)
                    try simp only [Int.toNat_natCast] at hu70
                    obtain rfl : u48 = u70 := by rw [hu48] at hu70; exact Option.some.inj hu70
                    refine DJ.yd 34 rfl (by kernel_rfl) (by kernel_rfl) (by kernel_rfl) rfl rfl (Yd.mvS rfl) ?_
                    refine DJ.yd 35 rfl (by kernel_rfl) (by kernel_rfl) (by kernel_rfl) rfl rfl (Yd.mvI rfl) ?_
                    refine DJ.idxA 36 rfl (by kernel_rfl) (by kernel_rfl) (by kernel_rfl) rfl rfl hl rfl rfl (by omega) (by first | rfl | omega | (simp; done) | (simp; omega) | (simp [upN_len]; omega) | (simp [idxBy_len]; omega) | (simp [marks_len]; omega) | (simp [upN_len]; done) | (simp [idxBy_len]; done) | (simp [marks_len]; done) | (simp at *; omega)) (fun ib73 io73 ia73 ir73 => ?_)
                    refine DJ.lgA 37 rfl (by kernel_rfl) (by kernel_rfl) (by kernel_rfl) rfl rfl (enc := Job.enc) (fun u => [vI u.Cut, vI u.Heat]) (fun _ => rfl) (fun _ => rfl) ir73 rfl rfl (by first | rfl | omega | (simp; done) | (simp; omega) | (simp [upN_len]; omega) | (simp [idxBy_len]; omega) | (simp [marks_len]; omega) | (simp [upN_len]; done) | (simp [idxBy_len]; done) | (simp [marks_len]; done) | (simp at *; omega)) (fun u74 hu74 => ?_)
                    try simp only [Int.toNat_natCast] at hu74
                    obtain rfl : u24 = u74 := by rw [hu24] at hu74; exact Option.some.inj hu74
                    refine DJ.yd 38 rfl (by kernel_rfl) (by kernel_rfl) (by kernel_rfl) rfl rfl (Yd.mvB rfl) ?_
                    refine DJ.one (i := 39) (by kernel_rfl) ?_
                    refine DO.callB rfl rfl rfl (fun k0 hk0 dk0 k hk dk => comesAfter_ok) (fun h76 => ?_) (fun h76 => ?_)
                    · refine DJ.yd 40 rfl (by kernel_rfl) (by kernel_rfl) (by kernel_rfl) rfl rfl (Yd.pickTB rfl rfl) ?_
                      refine DJ.done (by kernel_rfl) ?_
                      refine CJ.condT rfl ?_
                      refine CJ.skip ?_
                      refine CJ.block ?_
                      refine CJ.region ?_
                      refine LJ.yd rfl (Yd.mvI rfl) ?_
                      refine LJ.yd rfl (Yd.sub rfl rfl (by unfold I64; omega)) ?_
                      refine LJ.yd rfl (Yd.asI rfl) ?_
                      refine LJ.nil ?_
                      refine ⟨_, ?_, ⟨rfl, rfl, rfl, rfl, rfl, rfl, rfl, rfl, rfl, rfl, rfl, rfl, rfl, rfl, rfl, rfl, rfl, rfl, rfl, rfl, rfl, rfl, rfl, rfl, rfl, rfl, rfl, rfl, rfl, trivial⟩, ⟨rfl, trivial⟩, Ent.refl _, ?_⟩
                      · have hlt : ltK l k u45 = true := by
                          simp only [ltK, fstJ, gjC' hu24, gjC hu48]
                          simp [h30, h58]
                          simpa using h76
                        exact ⟨by omega, by omega, by rw [← hj2, e31]; exact (ins_step (by omega) hu45 hlt).symm⟩
                      · first | omega | (dsimp only; omega) | (simp only []; omega)
                    · refine DJ.yd 40 rfl (by kernel_rfl) (by kernel_rfl) (by kernel_rfl) rfl rfl (Yd.pickTB rfl rfl) ?_
                      refine DJ.done (by kernel_rfl) ?_
                      refine CJ.condF rfl ?_
                      refine CJ.exit ?_
                      refine CJ.seq ?_
                      have e2 : p.take j.toNat ++ (k : Int) :: p.drop j.toNat = (ins (ltK l) k p.reverse).reverse := by
                        rw [← hj2]
                        first
                          | (have e3 : j.toNat = 0 := by omega
                             rw [e3]; exact ins_zero.symm)
                          | (have hlt : ¬ ltK l k u45 = true := by
                               simp only [ltK, fstJ, gjC' hu24, gjC hu48]
                               simp [h30, h58]
                               done
                             exact (ins_stop (by omega) hu45 hlt).symm)
                          | (have hlt : ¬ ltK l k u45 = true := by
                               simp only [ltK, fstJ, gjC' hu24, gjC hu48]
                               simp [h30, h58]
                               simpa using h76
                             exact (ins_stop (by omega) hu45 hlt).symm)
                      refine CJ.region ?_
                      refine LJ.yd rfl (Yd.mvS rfl) ?_
                      refine LJ.yd rfl (Yd.mvI rfl) ?_
                      refine LJ.slLR 0 rfl rfl rfl rfl (by omega) (by first | rfl | omega | (simp; done) | (simp; omega) | (simp [upN_len]; omega) | (simp [idxBy_len]; omega) | (simp [marks_len]; omega) | (simp [upN_len]; done) | (simp [idxBy_len]; done) | (simp [marks_len]; done) | (simp at *; omega)) (by first | rfl | omega | (simp; done) | (simp; omega) | (simp [upN_len]; omega) | (simp [idxBy_len]; omega) | (simp [marks_len]; omega) | (simp [upN_len]; done) | (simp [idxBy_len]; done) | (simp [marks_len]; done) | (simp at *; omega)) (fun sa82 sm82 sc82 hsm82 hs82 => ?_)
                      refine LJ.call0 rfl (fun k hk dk => copyInts_ok (hs82 _ (Sts.lr hk dk 0 (by first | rfl | omega | (simp; done) | (simp; omega) | (simp [upN_len]; omega) | (simp [idxBy_len]; omega) | (simp [marks_len]; omega) | (simp [upN_len]; done) | (simp [idxBy_len]; done) | (simp [marks_len]; done) | (simp at *; omega)) rfl)) (by simp; omega)) ?_
                      rintro _ _ ⟨ra83, rc83, rfl, rfl⟩
                      refine LJ.norm [_, _] rfl ?_
                      refine LJ.yd rfl (Yd.asS rfl) ?_
                      refine LJ.nil ?_
                      refine CJ.region ?_
                      refine LJ.yd rfl (Yd.mvS rfl) ?_
                      refine LJ.yd rfl (Yd.mvI rfl) ?_
                      refine LJ.slHR 0 rfl rfl rfl rfl (by omega) (by first | rfl | omega | (simp; done) | (simp; omega) | (simp [upN_len]; omega) | (simp [idxBy_len]; omega) | (simp [marks_len]; omega) | (simp [upN_len]; done) | (simp [idxBy_len]; done) | (simp [marks_len]; done) | (simp at *; omega)) (fun sm86 hsm86 hs86 => ?_)
                      refine LJ.yd rfl (Yd.mvI rfl) ?_
                      refine LJ.op rfl (OpR.buildSlice (cs := [_]) rfl rfl) ?_
                      rintro _ _ ⟨b3, rfl, rfl⟩
                      refine LJ.imp1 0 rfl (fun _ r => Row.shorten sm86 (by first | rfl | omega | (simp; done) | (simp; omega) | (simp [upN_len]; omega) | (simp [idxBy_len]; omega) | (simp [marks_len]; omega) | (simp [upN_len]; done) | (simp [idxBy_len]; done) | (simp [marks_len]; done) | (simp at *; omega)) r) ?_
                      refine LJ.norm [_, _, _] rfl ?_
                      refine LJ.op rfl (OpR.apT (enc := encI) [_] 0 2 rfl rfl rfl (by first | rfl | omega | (simp; done) | (simp; omega) | (simp [upN_len]; omega) | (simp [idxBy_len]; omega) | (simp [marks_len]; omega) | (simp [upN_len]; done) | (simp [idxBy_len]; done) | (simp [marks_len]; done) | (simp at *; omega)) rfl rfl rfl rfl rfl (by first | rfl | omega | (simp; done) | (simp; omega) | (simp [upN_len]; omega) | (simp [idxBy_len]; omega) | (simp [marks_len]; omega) | (simp [upN_len]; done) | (simp [idxBy_len]; done) | (simp [marks_len]; done) | (simp at *; omega))) ?_
                      rintro _ _ ⟨ra89, rc89, rfl, rfl⟩
                      refine LJ.norm [_, _, _] rfl ?_
                      refine LJ.yd rfl (Yd.mvS rfl) ?_
                      refine LJ.op rfl (OpR.apR (enc := encI) 0 1 rfl rfl rfl (by first | rfl | omega | (simp; done) | (simp; omega) | (simp [upN_len]; omega) | (simp [idxBy_len]; omega) | (simp [marks_len]; omega) | (simp [upN_len]; done) | (simp [idxBy_len]; done) | (simp [marks_len]; done) | (simp at *; omega)) rfl (by first | rfl | omega | (simp; done) | (simp; omega) | (simp [upN_len]; omega) | (simp [idxBy_len]; omega) | (simp [marks_len]; omega) | (simp [upN_len]; done) | (simp [idxBy_len]; done) | (simp [marks_len]; done) | (simp at *; omega)) (fun _ => rfl) (by first | rfl | omega | (simp; done) | (simp; omega) | (simp [upN_len]; omega) | (simp [idxBy_len]; omega) | (simp [marks_len]; omega) | (simp [upN_len]; done) | (simp [idxBy_len]; done) | (simp [marks_len]; done) | (simp at *; omega))) ?_
                      rintro _ _ ⟨ra91, rc91, rfl, rfl⟩
                      refine LJ.norm [_, _, _] rfl ?_
                      refine LJ.yd rfl (Yd.asS rfl) ?_
                      refine LJ.nil ?_
                      refine CJ.region ?_
                      refine LJ.yd rfl (Yd.mvI rfl) ?_
                      refine LJ.yd rfl (Yd.add rfl rfl (by unfold I64; omega)) ?_
                      refine LJ.yd rfl (Yd.asI rfl) ?_
                      refine LJ.nil ?_
                      refine ⟨(k + 1, _, _, _, _), ?_, ⟨rfl, rfl, rfl, rfl, rfl, trivial⟩, ⟨rfl, rfl, trivial⟩, Ent.pick [0] [1, 2] rfl, ?_⟩
                      · refine ⟨(by first | rfl | omega | (simp; done) | (simp; omega) | (simp [upN_len]; omega) | (simp [idxBy_len]; omega) | (simp [marks_len]; omega) | (simp [upN_len]; done) | (simp [idxBy_len]; done) | (simp [marks_len]; done) | (simp at *; omega)), ?_⟩
                        refine ⟨by omega, ?_⟩
                        first
                          | (rw [seqJ_succ, if_neg (by simp only [fstJ, gjC' hu24]; simp [h30]; omega), List.append_nil]; exact hp2)
                          | (rw [seqJ_succ, if_pos (by simp only [fstJ, gjC' hu24]; simp [h30]; omega), insAll_append, ← hp2, insAll, insAll, hsm86, ← e2]; simp)
                      · first | omega | (dsimp only; omega) | (simp only []; omega)
                  · refine DJ.yd 22 rfl (by kernel_rfl) (by kernel_rfl) (by kernel_rfl) rfl rfl (Yd.mvB rfl) ?_
                    refine DJ.yd 23 rfl (by kernel_rfl) (by kernel_rfl) (by kernel_rfl) rfl rfl (Yd.cmpF (Yd.eqlB rfl rfl) (by decide)) ?_
                    refine DJ.yd 24 rfl (by kernel_rfl) (by kernel_rfl) (by kernel_rfl) rfl rfl (Yd.pickTB rfl rfl) ?_
                    refine DJ.yd 25 rfl (by kernel_rfl) (by kernel_rfl) (by kernel_rfl) rfl rfl (Yd.mvB rfl) ?_
                    refine DJ.skip 26 rfl (by kernel_rfl) (by kernel_rfl) (by kernel_rfl) rfl rfl ?_
                    refine DJ.skip 27 rfl (by kernel_rfl) (by kernel_rfl) (by kernel_rfl) rfl rfl ?_
                    refine DJ.skip 28 rfl (by kernel_rfl) (by kernel_rfl) (by kernel_rfl) rfl rfl ?_
                    refine DJ.skip 29 rfl (by kernel_rfl) (by kernel_rfl) (by kernel_rfl) rfl rfl ?_
                    refine DJ.skip 30 rfl (by kernel_rfl) (by kernel_rfl) (by kernel_rfl) rfl rfl ?_
                    refine DJ.skip 31 rfl (by kernel_rfl) (by kernel_rfl) (by kernel_rfl) rfl rfl ?_
                    refine DJ.skip 32 rfl (by kernel_rfl) (by kernel_rfl) (by kernel_rfl) rfl rfl ?_
                    refine DJ.skip 33 rfl (by kernel_rfl) (by kernel_rfl) (by kernel_rfl) rfl rfl ?_
                    refine DJ.skip 34 rfl (by kernel_rfl) (by kernel_rfl) (by kernel_rfl) rfl rfl ?_
                    refine DJ.skip 35 rfl (by kernel_rfl) (by kernel_rfl) (by kernel_rfl) rfl rfl ?_
                    refine DJ.skip 36 rfl (by kernel_rfl) (by kernel_rfl) (by kernel_rfl) rfl rfl ?_
                    refine DJ.skip 37 rfl (by kernel_rfl) (by kernel_rfl) (by kernel_rfl) rfl rfl ?_
                    refine DJ.skip 38 rfl (by kernel_rfl) (by kernel_rfl) (by kernel_rfl) rfl rfl ?_
                    refine DJ.skip 39 rfl (by kernel_rfl) (by kernel_rfl) (by kernel_rfl) rfl rfl ?_
                    refine DJ.yd 40 rfl (by kernel_rfl) (by kernel_rfl) (by kernel_rfl) rfl rfl (Yd.pickFB rfl rfl) ?_
                    refine DJ.done (by kernel_rfl) ?_
                    refine CJ.condF rfl ?_
                    refine CJ.exit ?_
                    refine CJ.seq ?_
                    have e2 : p.take j.toNat ++ (k : Int) :: p.drop j.toNat = (ins (ltK l) k p.reverse).reverse := by
                      rw [← hj2]
                      first
                        | (have e3 : j.toNat = 0 := by omega
                           rw [e3]; exact ins_zero.symm)
                        | (have hlt : ¬ ltK l k u45 = true := by
                             simp only [ltK, fstJ, gjC' hu24, gjC hu48]
                             simp [h30, h58]
                             done
                           exact (ins_stop (by omega) hu45 hlt).symm)
                        | (have hlt : ¬ ltK l k u45 = true := by
                             simp only [ltK, fstJ, gjC' hu24, gjC hu48]
                             simp [h30, h58]
                             simpa using h76
                           exact (ins_stop (by omega) hu45 hlt).symm)
                    refine CJ.region ?_
                    refine LJ.yd rfl (Yd.mvS rfl) ?_
                    refine LJ.yd rfl (Yd.mvI rfl) ?_
                    refine LJ.slLR 0 rfl rfl rfl rfl (by omega) (by first | rfl | omega | (simp; done) | (simp; omega) | (simp [upN_len]; omega) | (simp [idxBy_len]; omega) | (simp [marks_len]; omega) | (simp [upN_len]; done) | (simp [idxBy_len]; done) | (simp [marks_len]; done) | (simp at *; omega)) (by first | rfl | omega | (simp; done) | (simp; omega) | (simp [upN_len]; omega) | (simp [idxBy_len]; omega) | (simp [marks_len]; omega) | (simp [upN_len]; done) | (simp [idxBy_len]; done) | (simp [marks_len]; done) | (simp at *; omega)) (fun sa82 sm82 sc82 hsm82 hs82 => ?_)
                    refine LJ.call0 rfl (fun k hk dk => copyInts_ok (hs82 _ (Sts.lr hk dk 0 (by first | rfl | omega | (simp; done) | (simp; omega) | (simp [upN_len]; omega) | (simp [idxBy_len]; omega) | (simp [marks_len]; omega) | (simp [upN_len]; done) | (simp [idxBy_len]; done) | (simp [marks_len]; done) | (simp at *; omega)) rfl)) (by simp; omega)) ?_
                    rintro _ _ ⟨ra83, rc83, rfl, rfl⟩
                    refine LJ.norm [_, _] rfl ?_
                    refine LJ.yd rfl (Yd.asS rfl) ?_
                    refine LJ.nil ?_
                    refine CJ.region ?_
                    refine LJ.yd rfl (Yd.mvS rfl) ?_
                    refine LJ.yd rfl (Yd.mvI rfl) ?_
                    refine LJ.slHR 0 rfl rfl rfl rfl (by omega) (by first | rfl | omega | (simp; done) | (simp; omega) | (simp [upN_len]; omega) | (simp [idxBy_len]; omega) | (simp [marks_len]; omega) | (simp [upN_len]; done) | (simp [idxBy_len]; done) | (simp [marks_len]; done) | (simp at *; omega)) (fun sm86 hsm86 hs86 => ?_)
                    refine LJ.yd rfl (Yd.mvI rfl) ?_
                    refine LJ.op rfl (OpR.buildSlice (cs := [_]) rfl rfl) ?_
                    rintro _ _ ⟨b5, rfl, rfl⟩
                    refine LJ.imp1 0 rfl (fun _ r => Row.shorten sm86 (by first | rfl | omega | (simp; done) | (simp; omega) | (simp [upN_len]; omega) | (simp [idxBy_len]; omega) | (simp [marks_len]; omega) | (simp [upN_len]; done) | (simp [idxBy_len]; done) | (simp [marks_len]; done) | (simp at *; omega)) r) ?_
                    refine LJ.norm [_, _, _] rfl ?_
                    refine LJ.op rfl (OpR.apT (enc := encI) [_] 0 2 rfl rfl rfl (by first | rfl | omega | (simp; done) | (simp; omega) | (simp [upN_len]; omega) | (simp [idxBy_len]; omega) | (simp [marks_len]; omega) | (simp [upN_len]; done) | (simp [idxBy_len]; done) | (simp [marks_len]; done) | (simp at *; omega)) rfl rfl rfl rfl rfl (by first | rfl | omega | (simp; done) | (simp; omega) | (simp [upN_len]; omega) | (simp [idxBy_len]; omega) | (simp [marks_len]; omega) | (simp [upN_len]; done) | (simp [idxBy_len]; done) | (simp [marks_len]; done) | (simp at *; omega))) ?_
                    rintro _ _ ⟨ra89, rc89, rfl, rfl⟩
                    refine LJ.norm [_, _, _] rfl ?_
                    refine LJ.yd rfl (Yd.mvS rfl) ?_
                    refine LJ.op rfl (OpR.apR (enc := encI) 0 1 rfl rfl rfl (by first | rfl | omega | (simp; done) | (simp; omega) | (simp [upN_len]; omega) | (simp [idxBy_len]; omega) | (simp [marks_len]; omega) | (simp [upN_len]; done) | (simp [idxBy_len]; done) | (simp [marks_len]; done) | (simp at *; omega)) rfl (by first | rfl | omega | (simp; done) | (simp; omega) | (simp [upN_len]; omega) | (simp [idxBy_len]; omega) | (simp [marks_len]; omega) | (simp [upN_len]; done) | (simp [idxBy_len]; done) | (simp [marks_len]; done) | (simp at *; omega)) (fun _ => rfl) (by first | rfl | omega | (simp; done) | (simp; omega) | (simp [upN_len]; omega) | (simp [idxBy_len]; omega) | (simp [marks_len]; omega) | (simp [upN_len]; done) | (simp [idxBy_len]; done) | (simp [marks_len]; done) | (simp at *; omega))) ?_
                    rintro _ _ ⟨ra91, rc91, rfl, rfl⟩
                    refine LJ.norm [_, _, _] rfl ?_
                    refine LJ.yd rfl (Yd.asS rfl) ?_
                    refine LJ.nil ?_
                    refine CJ.region ?_
                    refine LJ.yd rfl (Yd.mvI rfl) ?_
                    refine LJ.yd rfl (Yd.add rfl rfl (by unfold I64; omega)) ?_
                    refine LJ.yd rfl (Yd.asI rfl) ?_
                    refine LJ.nil ?_
                    refine ⟨(k + 1, _, _, _, _), ?_, ⟨rfl, rfl, rfl, rfl, rfl, trivial⟩, ⟨rfl, rfl, trivial⟩, Ent.pick [0] [1, 2] rfl, ?_⟩
                    · refine ⟨(by first | rfl | omega | (simp; done) | (simp; omega) | (simp [upN_len]; omega) | (simp [idxBy_len]; omega) | (simp [marks_len]; omega) | (simp [upN_len]; done) | (simp [idxBy_len]; done) | (simp [marks_len]; done) | (simp at *; omega)), ?_⟩
                      refine ⟨by omega, ?_⟩
                      first
                        | (rw [seqJ_succ, if_neg (by simp only [fstJ, gjC' hu24]; simp [h30]; omega), List.append_nil]; exact hp2)
                        | (rw [seqJ_succ, if_pos (by simp only [fstJ, gjC' hu24]; simp [h30]; omega), insAll_append, ← hp2, insAll, insAll, hsm86, ← e2]; simp)
                    · first | omega | (dsimp only; omega) | (simp only []; omega)
                · refine DJ.yd 2 rfl (by kernel_rfl) (by kernel_rfl) (by kernel_rfl) rfl rfl (Yd.mvB rfl) ?_
                  refine DJ.skip 3 rfl (by kernel_rfl) (by kernel_rfl) (by kernel_rfl) rfl rfl ?_
                  refine DJ.skip 4 rfl (by kernel_rfl) (by kernel_rfl) (by kernel_rfl) rfl rfl ?_
                  refine DJ.skip 5 rfl (by kernel_rfl) (by kernel_rfl) (by kernel_rfl) rfl rfl ?_
                  refine DJ.skip 6 rfl (by kernel_rfl) (by kernel_rfl) (by kernel_rfl) rfl rfl ?_
                  refine DJ.skip 7 rfl (by kernel_rfl) (by kernel_rfl) (by kernel_rfl) rfl rfl ?_
                  refine DJ.skip 8 rfl (by kernel_rfl) (by kernel_rfl) (by kernel_rfl) rfl rfl ?_
                  refine DJ.skip 9 rfl (by kernel_rfl) (by kernel_rfl) (by kernel_rfl) rfl rfl ?_
                  refine DJ.skip 10 rfl (by kernel_rfl) (by kernel_rfl) (by kernel_rfl) rfl rfl ?_
                  refine DJ.skip 11 rfl (by kernel_rfl) (by kernel_rfl) (by kernel_rfl) rfl rfl ?_
                  refine DJ.skip 12 rfl (by kernel_rfl) (by kernel_rfl) (by kernel_rfl) rfl rfl ?_
                  refine DJ.skip 13 rfl (by kernel_rfl) (by kernel_rfl) (by kernel_rfl) rfl rfl ?_
                  refine DJ.skip 14 rfl (by kernel_rfl) (by kernel_rfl) (by kernel_rfl) rfl rfl ?_
                  refine DJ.skip 15 rfl (by kernel_rfl) (by kernel_rfl) (by kernel_rfl) rfl rfl ?_
                  refine DJ.skip 16 rfl (by kernel_rfl) (by kernel_rfl) (by kernel_rfl) rfl rfl ?_
                  refine DJ.skip 17 rfl (by kernel_rfl) (by kernel_rfl) (by kernel_rfl) rfl rfl ?_
                  refine DJ.skip 18 rfl (by kernel_rfl) (by kernel_rfl) (by kernel_rfl) rfl rfl ?_
                  refine DJ.skip 19 rfl (by kernel_rfl) (by kernel_rfl) (by kernel_rfl) rfl rfl ?_
                  refine DJ.skip 20 rfl (by kernel_rfl) (by kernel_rfl) (by kernel_rfl) rfl rfl ?_
                  refine DJ.skip 21 rfl (by kernel_rfl) (by kernel_rfl) (by kernel_rfl) rfl rfl ?_
                  refine DJ.skip 22 rfl (by kernel_rfl) (by kernel_rfl) (by kernel_rfl) rfl rfl ?_
                  refine DJ.skip 23 rfl (by kernel_rfl) (by kernel_rfl) (by kernel_rfl) rfl rfl ?_
                  refine DJ.yd 24 rfl (by kernel_rfl) (by kernel_rfl) (by kernel_rfl) rfl rfl (Yd.pickFB rfl rfl) ?_
                  refine DJ.yd 25 rfl (by kernel_rfl) (by kernel_rfl) (by kernel_rfl) rfl rfl (Yd.mvB rfl) ?_
                  refine DJ.skip 26 rfl (by kernel_rfl) (by kernel_rfl) (by kernel_rfl) rfl rfl ?_
                  refine DJ.skip 27 rfl (by kernel_rfl) (by kernel_rfl) (by kernel_rfl) rfl rfl ?_
                  refine DJ.skip 28 rfl (by kernel_rfl) (by kernel_rfl) (by kernel_rfl) rfl rfl ?_
                  refine DJ.skip 29 rfl (by kernel_rfl) (by kernel_rfl) (by kernel_rfl) rfl rfl ?_
                  refine DJ.skip 30 rfl (by kernel_rfl) (by kernel_rfl) (by kernel_rfl) rfl rfl ?_
                  refine DJ.skip 31 rfl (by kernel_rfl) (by kernel_rfl) (by kernel_rfl) rfl rfl ?_
                  refine DJ.skip 32 rfl (by kernel_rfl) (by kernel_rfl) (by kernel_rfl) rfl rfl ?_
                  refine DJ.skip 33 rfl (by kernel_rfl) (by kernel_rfl) (by kernel_rfl) rfl rfl ?_
                  refine DJ.skip 34 rfl (by kernel_rfl) (by kernel_rfl) (by kernel_rfl) rfl rfl ?_
                  refine DJ.skip 35 rfl (by kernel_rfl) (by kernel_rfl) (by kernel_rfl) rfl rfl ?_
                  refine DJ.skip 36 rfl (by kernel_rfl) (by kernel_rfl) (by kernel_rfl) rfl rfl ?_
                  refine DJ.skip 37 rfl (by kernel_rfl) (by kernel_rfl) (by kernel_rfl) rfl rfl ?_
                  refine DJ.skip 38 rfl (by kernel_rfl) (by kernel_rfl) (by kernel_rfl) rfl rfl ?_
                  refine DJ.skip 39 rfl (by kernel_rfl) (by kernel_rfl) (by kernel_rfl) rfl rfl ?_
                  refine DJ.yd 40 rfl (by kernel_rfl) (by kernel_rfl) (by kernel_rfl) rfl rfl (Yd.pickFB rfl rfl) ?_
                  refine DJ.done (by kernel_rfl) ?_
                  refine CJ.condF rfl ?_
                  refine CJ.exit ?_
                  refine CJ.seq ?_
                  have e2 : p.take j.toNat ++ (k : Int) :: p.drop j.toNat = (ins (ltK l) k p.reverse).reverse := by
                    rw [← hj2]
                    first
                      | (have e3 : j.toNat = 0 := by omega
                         rw [e3]; exact ins_zero.symm)
                      | (have hlt : ¬ ltK l k u45 = true := by
                           simp only [ltK, fstJ, gjC' hu24, gjC hu48]
                           simp [h30, h58]
                           done
                         exact (ins_stop (by omega) hu45 hlt).symm)
                      | (have hlt : ¬ ltK l k u45 = true := by
                           simp only [ltK, fstJ, gjC' hu24, gjC hu48]
                           simp [h30, h58]
                           simpa using h76
                         exact (ins_stop (by omega) hu45 hlt).symm)
                  refine CJ.region ?_
                  refine LJ.yd rfl (Yd.mvS rfl) ?_
                  refine LJ.yd rfl (Yd.mvI rfl) ?_
                  refine LJ.slLR 0 rfl rfl rfl rfl (by omega) (by first | rfl | omega | (simp; done) | (simp; omega) | (simp [upN_len]; omega) | (simp [idxBy_len]; omega) | (simp [marks_len]; omega) | (simp [upN_len]; done) | (simp [idxBy_len]; done) | (simp [marks_len]; done) | (simp at *; omega)) (by first | rfl | omega | (simp; done) | (simp; omega) | (simp [upN_len]; omega) | (simp [idxBy_len]; omega) | (simp [marks_len]; omega) | (simp [upN_len]; done) | (simp [idxBy_len]; done) | (simp [marks_len]; done) | (simp at *; omega)) (fun sa82 sm82 sc82 hsm82 hs82 => ?_)
                  refine LJ.call0 rfl (fun k hk dk => copyInts_ok (hs82 _ (Sts.lr hk dk 0 (by first | rfl | omega | (simp; done) | (simp; omega) | (simp [upN_len]; omega) | (simp [idxBy_len]; omega) | (simp [marks_len]; omega) | (simp [upN_len]; done) | (simp [idxBy_len]; done) | (simp [marks_len]; done) | (simp at *; omega)) rfl)) (by simp; omega)) ?_
                  rintro _ _ ⟨ra83, rc83, rfl, rfl⟩
                  refine LJ.norm [_, _] rfl ?_
                  refine LJ.yd rfl (Yd.asS rfl) ?_
                  refine LJ.nil ?_
                  refine CJ.region ?_
                  refine LJ.yd rfl (Yd.mvS rfl) ?_
                  refine LJ.yd rfl (Yd.mvI rfl) ?_
                  refine LJ.slHR 0 rfl rfl rfl rfl (by omega) (by first | rfl | omega | (simp; done) | (simp; omega) | (simp [upN_len]; omega) | (simp [idxBy_len]; omega) | (simp [marks_len]; omega) | (simp [upN_len]; done) | (simp [idxBy_len]; done) | (simp [marks_len]; done) | (simp at *; omega)) (fun sm86 hsm86 hs86 => ?_)
                  refine LJ.yd rfl (Yd.mvI rfl) ?_
                  refine LJ.op rfl (OpR.buildSlice (cs := [_]) rfl rfl) ?_
                  rintro _ _ ⟨b7, rfl, rfl⟩
                  refine LJ.imp1 0 rfl (fun _ r => Row.shorten sm86 (by first | rfl | omega | (simp; done) | (simp; omega) | (simp [upN_len]; omega) | (simp [idxBy_len]; omega) | (simp [marks_len]; omega) | (simp [upN_len]; done) | (simp [idxBy_len]; done) | (simp [marks_len]; done) | (simp at *; omega)) r) ?_
                  refine LJ.norm [_, _, _] rfl ?_
                  refine LJ.op rfl (OpR.apT (enc := encI) [_] 0 2 rfl rfl rfl (by first | rfl | omega | (simp; done) | (simp; omega) | (simp [upN_len]; omega) | (simp [idxBy_len]; omega) | (simp [marks_len]; omega) | (simp [upN_len]; done) | (simp [idxBy_len]; done) | (simp [marks_len]; done) | (simp at *; omega)) rfl rfl rfl rfl rfl (by first | rfl | omega | (simp; done) | (simp; omega) | (simp [upN_len]; omega) | (simp [idxBy_len]; omega) | (simp [marks_len]; omega) | (simp [upN_len]; done) | (simp [idxBy_len]; done) | (simp [marks_len]; done) | (simp at *; omega))) ?_
                  rintro _ _ ⟨ra89, rc89, rfl, rfl⟩
                  refine LJ.norm [_, _, _] rfl ?_
                  refine LJ.yd rfl (Yd.mvS rfl) ?_
                  refine LJ.op rfl (OpR.apR (enc := encI) 0 1 rfl rfl rfl (by first | rfl | omega | (simp; done) | (simp; omega) | (simp [upN_len]; omega) | (simp [idxBy_len]; omega) | (simp [marks_len]; omega) | (simp [upN_len]; done) | (simp [idxBy_len]; done) | (simp [marks_len]; done) | (simp at *; omega)) rfl (by first | rfl | omega | (simp; done) | (simp; omega) | (simp [upN_len]; omega) | (simp [idxBy_len]; omega) | (simp [marks_len]; omega) | (simp [upN_len]; done) | (simp [idxBy_len]; done) | (simp [marks_len]; done) | (simp at *; omega)) (fun _ => rfl) (by first | rfl | omega | (simp; done) | (simp; omega) | (simp [upN_len]; omega) | (simp [idxBy_len]; omega) | (simp [marks_len]; omega) | (simp [upN_len]; done) | (simp [idxBy_len]; done) | (simp [marks_len]; done) | (simp at *; omega))) ?_
                  rintro _ _ ⟨ra91, rc91, rfl, rfl⟩
                  refine LJ.norm [_, _, _] rfl ?_
                  refine LJ.yd rfl (Yd.asS rfl) ?_
                  refine LJ.nil ?_
                  refine CJ.region ?_
                  refine LJ.yd rfl (Yd.mvI rfl) ?_
                  refine LJ.yd rfl (Yd.add rfl rfl (by unfold I64; omega)) ?_
                  refine LJ.yd rfl (Yd.asI rfl) ?_
                  refine LJ.nil ?_
                  refine ⟨(k + 1, _, _, _, _), ?_, ⟨rfl, rfl, rfl, rfl, rfl, trivial⟩, ⟨rfl, rfl, trivial⟩, Ent.pick [0] [1, 2] rfl, ?_⟩
                  · refine ⟨(by first | rfl | omega | (simp; done) | (simp; omega) | (simp [upN_len]; omega) | (simp [idxBy_len]; omega) | (simp [marks_len]; omega) | (simp [upN_len]; done) | (simp [idxBy_len]; done) | (simp [marks_len]; done) | (simp at *; omega)), ?_⟩
                    refine ⟨by omega, ?_⟩
                    first
                      | (rw [seqJ_succ, if_neg (by simp only [fstJ, gjC' hu24]; simp [h30]; omega), List.append_nil]; exact hp2)
                      | (rw [seqJ_succ, if_pos (by simp only [fstJ, gjC' hu24]; simp [h30]; omega), insAll_append, ← hp2, insAll, insAll, hsm86, ← e2]; simp)
                  · first | omega | (dsimp only; omega) | (simp only []; omega)
          · refine DJ.yd 11 rfl (by kernel_rfl) (by kernel_rfl) (by kernel_rfl) rfl rfl (Yd.asB rfl) ?_
            refine DJ.done (by kernel_rfl) ?_
            refine CJ.seq ?_
            refine CJ.seq ?_
            refine CJ.region ?_
            refine LJ.yd rfl (Yd.mvB rfl) ?_
            refine LJ.yd rfl (Yd.mvI rfl) ?_
            refine LJ.splitD rfl (Yd.eql rfl rfl) (fun h33 => ?_) (fun h33 => ?_)
            · refine LJ.yd rfl (Yd.cmpF (Yd.eqlB rfl rfl) (by decide)) ?_
              refine LJ.nil ?_
              refine CJ.condF rfl ?_
              refine CJ.skip ?_
              refine CJ.seq ?_
              refine CJ.region ?_
              refine LJ.yd rfl (Yd.mvS rfl) ?_
              refine LJ.yd rfl (Yd.len rfl) ?_
              refine LJ.yd rfl (Yd.asI rfl) ?_
              refine LJ.nil ?_
              refine CJ.seq ?_
              refine CJ.block ?_
              refine CJ.loopK [0, 2, 3, 4, 5, 6, 10, 11, 14, 15, 16, 17, 20, 21, 22, 23, 24, 25, 26, 27, 28, 29, 30, 31, 32, 33, 34, 35, 36] Int (fun j => 0 ≤ j ∧ j ≤ p.length ∧ (ins (ltK l) k (p.take j.toNat).reverse).reverse ++ p.drop j.toNat = (ins (ltK l) k p.reverse).reverse) (fun j => [(7, vI j)]) (fun j => j.toNat) (p.length) ?_ ⟨rfl, trivial⟩ ?_
              · exact ⟨by omega, by omega, by rw [Int.toNat_natCast]; exact ins_full⟩
              · rintro j σ ⟨hj0, hj1, hj2⟩
                refine CJ.seq ?_
                refine CJ.seq ?_
                refine CJ.regionD [0] [] (by kernel_rfl) rfl ?_
                refine DJ.norm [_] [] rfl rfl ?_
                refine DJ.yd 0 rfl (by kernel_rfl) (by kernel_rfl) (by kernel_rfl) rfl rfl (Yd.mvI rfl) ?_
                refine DJ.splitD 1 rfl (by kernel_rfl) (by kernel_rfl) (by kernel_rfl) rfl rfl (Yd.gtr rfl rfl) (fun h38 => ?_) (fun h38 => ?_)
                · refine DJ.yd 2 rfl (by kernel_rfl) (by kernel_rfl) (by kernel_rfl) rfl rfl (Yd.mvB rfl) ?_
                  refine DJ.yd 3 rfl (by kernel_rfl) (by kernel_rfl) (by kernel_rfl) rfl rfl (Yd.mvS rfl) ?_
                  refine DJ.yd 4 rfl (by kernel_rfl) (by kernel_rfl) (by kernel_rfl) rfl rfl (Yd.mvS rfl) ?_
                  refine DJ.yd 5 rfl (by kernel_rfl) (by kernel_rfl) (by kernel_rfl) rfl rfl (Yd.mvI rfl) ?_
                  refine DJ.yd 6 rfl (by kernel_rfl) (by kernel_rfl) (by kernel_rfl) rfl rfl (Yd.sub rfl rfl (by unfold I64; omega)) ?_
                  refine DJ.idxF 0 rfl 7 rfl (by kernel_rfl) (by kernel_rfl) (by kernel_rfl) rfl rfl rfl rfl (by omega) (by first | rfl | omega | (simp; done) | (simp; omega) | (simp [upN_len]; omega) | (simp [idxBy_len]; omega) | (simp [marks_len]; omega) | (simp [upN_len]; done) | (simp [idxBy_len]; done) | (simp [marks_len]; done) | (simp at *; omega)) (by first | rfl | omega | (simp; done) | (simp; omega) | (simp [upN_len]; omega) | (simp [idxBy_len]; omega) | (simp [marks_len]; omega) | (simp [upN_len]; done) | (simp [idxBy_len]; done) | (simp [marks_len]; done) | (simp at *; omega)) (fun ib44 ia44 => ?_)
                  refine DJ.ldF 8 rfl (by kernel_rfl) (by kernel_rfl) (by kernel_rfl) rfl rfl 0 0 (fun u => vI u) (fun _ => rfl) rfl ia44 rfl rfl (by first | rfl | omega | (simp; done) | (simp; omega) | (simp [upN_len]; omega) | (simp [idxBy_len]; omega) | (simp [marks_len]; omega) | (simp [upN_len]; done) | (simp [idxBy_len]; done) | (simp [marks_len]; done) | (simp at *; omega)) (fun u45 hu45 => ?_)
                  try simp only [Int.toNat_natCast] at hu45
                  have hf45 := hpm u45 (List.mem_of_getElem? hu45)
                  have e31 : (j - 1).toNat = j.toNat - 1 := by omega
                  rw [e31] at hu45
                  refine DJ.idxA 9 rfl (by kernel_rfl) (by kernel_rfl) (by kernel_rfl) rfl rfl hl rfl rfl (by omega) (by first | rfl | omega | (simp; done) | (simp; omega) | (simp [upN_len]; omega) | (simp [idxBy_len]; omega) | (simp [marks_len]; omega) | (simp [upN_len]; done) | (simp [idxBy_len]; done) | (simp [marks_len]; done) | (simp at *; omega)) (fun ib46 io46 ia46 ir46 => ?_)
                  refine DJ.yd 10 rfl (by kernel_rfl) (by kernel_rfl) (by kernel_rfl) rfl rfl (Yd.fieldAddr rfl) ?_
                  refine DJ.ldA 11 rfl (by kernel_rfl) (by kernel_rfl) (by kernel_rfl) rfl rfl 0 (fun u => vI u.Cut) (fun _ => rfl) ir46 rfl rfl (by first | rfl | omega | (simp; done) | (simp; omega) | (simp [upN_len]; omega) | (simp [idxBy_len]; omega) | (simp [marks_len]; omega) | (simp [upN_len]; done) | (simp [idxBy_len]; done) | (simp [marks_len]; done) | (simp at *; omega)) (fun u48 hu48 => ?_)
                  try simp only [Int.toNat_natCast] at hu48
                  refine DJ.yd 12 rfl (by kernel_rfl) (by kernel_rfl) (by kernel_rfl) rfl rfl (Yd.mvS rfl) ?_
                  refine DJ.yd 13 rfl (by kernel_rfl) (by kernel_rfl) (by kernel_rfl) rfl rfl (Yd.mvS rfl) ?_
                  refine DJ.yd 14 rfl (by kernel_rfl) (by kernel_rfl) (by kernel_rfl) rfl rfl (Yd.mvI rfl) ?_
                  refine DJ.yd 15 rfl (by kernel_rfl) (by kernel_rfl) (by kernel_rfl) rfl rfl (Yd.sub rfl rfl (by unfold I64; omega)) ?_
                  refine DJ.idxF 0 rfl 16 rfl (by kernel_rfl) (by kernel_rfl) (by kernel_rfl) rfl rfl rfl rfl (by omega) (by first | rfl | omega | (simp; done) | (simp; omega) | (simp [upN_len]; omega) | (simp [idxBy_len]; omega) | (simp [marks_len]; omega) | (simp [upN_len]; done) | (simp [idxBy_len]; done) | (simp [marks_len]; done) | (simp at *; omega)) (by first | rfl | omega | (simp; done) | (simp; omega) | (simp [upN_len]; omega) | (simp [idxBy_len]; omega) | (simp [marks_len]; omega) | (simp [upN_len]; done) | (simp [idxBy_len]; done) | (simp [marks_len]; done) | (simp at *; omega)) (fun ib53 ia53 => ?_)
                  refine DJ.ldF 17 rfl (by kernel_rfl) (by kernel_rfl) (by kernel_rfl) rfl rfl 0 0 (fun u => vI u) (fun _ => rfl) rfl ia53 rfl rfl (by first | rfl | omega | (simp; done) | (simp; omega) | (simp [upN_len]; omega) | (simp [idxBy_len]; omega) | (simp [marks_len]; omega) | (simp [upN_len]; done) | (simp [idxBy_len]; done) | (simp [marks_len]; done) | (simp at *; omega)) (fun u54 hu54 => ?_)
                  try simp only [Int.toNat_natCast] at hu54
                  rw [e31] at hu54
                  obtain rfl : u45 = u54 := by rw [hu45] at hu54; exact Option.some.inj hu54
                  refine DJ.idxA 18 rfl (by kernel_rfl) (by kernel_rfl) (by kernel_rfl) rfl rfl hl rfl rfl (by omega) (by first | rfl | omega | (simp; done) | (simp; omega) | (simp [upN_len]; omega) | (simp [idxBy_len]; omega) | (simp [marks_len]; omega) | (simp [upN_len]; done) | (simp [idxBy_len]; done) | (simp [marks_len]; done) | (simp at *; omega)) (fun ib55 io55 ia55 ir55 => ?_)
                  refine DJ.yd 19 rfl (by kernel_rfl) (by kernel_rfl) (by kernel_rfl) rfl rfl (Yd.fieldAddr rfl) ?_
                  refine DJ.ldA 20 rfl (by kernel_rfl) (by kernel_rfl) (by kernel_rfl) rfl rfl 1 (fun u => vI u.Heat) (fun _ => rfl) ir55 rfl rfl (by first | rfl | omega | (simp; done) | (simp; omega) | (simp [upN_len]; omega) | (simp [idxBy_len]; omega) | (simp [marks_len]; omega) | (simp [upN_len]; done) | (simp [idxBy_len]; done) | (simp [marks_len]; done) | (simp at *; omega)) (fun u57 hu57 => ?_)
                  try simp only [Int.toNat_natCast] at hu57
                  obtain rfl : u48 = u57 := by rw [hu48] at hu57; exact Option.some.inj hu57
                  refine DJ.splitD 21 rfl (by kernel_rfl) (by kernel_rfl) (by kernel_rfl) rfl rfl (Yd.lss rfl rfl) (fun h58 => ?_) (fun h58 => ?_)
                  · refine DJ.yd 22 rfl (by kernel_rfl) (by kernel_rfl) (by kernel_rfl) rfl rfl (Yd.mvB rfl) ?_
                    refine DJ.yd 23 rfl (by kernel_rfl) (by kernel_rfl) (by kernel_rfl) rfl rfl (Yd.cmpF (Yd.eqlB rfl rfl) (by decide)) ?_
                    refine DJ.yd 24 rfl (by kernel_rfl) (by kernel_rfl) (by kernel_rfl) rfl rfl (Yd.pickTB rfl rfl) ?_
                    refine DJ.yd 25 rfl (by kernel_rfl) (by kernel_rfl) (by kernel_rfl) rfl rfl (Yd.mvB rfl) ?_
                    refine DJ.skip 26 rfl (by kernel_rfl) (by kernel_rfl) (by kernel_rfl) rfl rfl ?_
                    refine DJ.skip 27 rfl (by kernel_rfl) (by kernel_rfl) (by kernel_rfl) rfl rfl ?_
                    refine DJ.skip 28 rfl (by kernel_rfl) (by kernel_rfl) (by kernel_rfl) rfl rfl ?_
                    refine DJ.skip 29 rfl (by kernel_rfl) (by kernel_rfl) (by kernel_rfl) rfl rfl ?_
                    refine DJ.skip 30 rfl (by kernel_rfl) (by kernel_rfl) (by kernel_rfl) rfl rfl ?_
                    refine DJ.skip 31 rfl (by kernel_rfl) (by kernel_rfl) (by kernel_rfl) rfl rfl ?_
                    refine DJ.skip 32 rfl (by kernel_rfl) (by kernel_rfl) (by kernel_rfl) rfl rfl ?_
                    refine DJ.skip 33 rfl (by kernel_rfl) (by kernel_rfl) (by kernel_rfl) rfl rfl ?_
                    refine DJ.skip 34 rfl (by kernel_rfl) (by kernel_rfl) (by kernel_rfl) rfl rfl ?_
                    refine DJ.skip 35 rfl (by kernel_rfl) (by kernel_rfl) (by kernel_rfl) rfl rfl ?_
                    refine DJ.skip 36 rfl (by kernel_rfl) (by kernel_rfl) (by kernel_rfl) rfl rfl ?_
                    refine DJ.skip 37 rfl (by kernel_rfl) (by kernel_rfl) (by kernel_rfl) rfl rfl ?_
                    refine DJ.skip 38 rfl (by kernel_rfl) (by kernel_rfl) (by kernel_rfl) rfl rfl ?_
                    refine DJ.skip 39 rfl (by kernel_rfl) (by kernel_rfl) (by kernel_rfl) rfl rfl ?_
                    refine DJ.yd 40 rfl (by kernel_rfl) (by kernel_rfl) (by kernel_rfl) rfl rfl (Yd.pickFB rfl rfl) ?_
                    refine DJ.done (by kernel_rfl) ?_
                    refine CJ.condF rfl ?_
                    refine CJ.exit ?_
                    refine CJ.seq ?_
                    have e2 : p.take j.toNat ++ (k : Int) :: p.drop j.toNat = (ins (ltK l) k p.reverse).reverse := by
                      rw [← hj2]
                      first
                        | (have e3 : j.toNat = 0 := by omega
                           rw [e3]; exact ins_zero.symm)
                        | (have hlt : ¬ ltK l k u45 = true := by
                             simp only [ltK, fstJ, gjC' hu24, gjC hu48]
                             simp [h30, h58]
                             done
                           exact (ins_stop (by omega) hu45 hlt).symm)
                        | (have hlt : ¬ ltK l k u45 = true := by
                             simp only [ltK, fstJ, gjC' hu24, gjC hu48]
                             simp [h30, h58]
                             simpa using h76
                           exact (ins_stop (by omega) hu45 hlt).symm)
                    refine CJ.region ?_
                    refine LJ.yd rfl (Yd.mvS rfl) ?_
                    refine LJ.yd rfl (Yd.mvI rfl) ?_
                    refine LJ.slLR 0 rfl rfl rfl rfl (by omega) (by first | rfl | omega | (simp; done) | (simp; omega) | (simp [upN_len]; omega) | (simp [idxBy_len]; omega) | (simp [marks_len]; omega) | (simp [upN_len]; done) | (simp [idxBy_len]; done) | (simp [marks_len]; done) | (simp at *; omega)) (by first | rfl | omega | (simp; done) | (simp; omega) | (simp [upN_len]; omega) | (simp [idxBy_len]; omega) | (simp [marks_len]; omega) | (simp [upN_len]; done) | (simp [idxBy_len]; done) | (simp [marks_len]; done) | (simp at *; omega)) (fun sa82 sm82 sc82 hsm82 hs82 => ?_)
                    refine LJ.call0 rfl (fun k hk dk => copyInts_ok (hs82 _ (Sts.lr hk dk 0 (by first | rfl | omega | (simp; done) | (simp; omega) | (simp [upN_len]; omega) | (simp [idxBy_len]; omega) | (simp [marks_len]; omega) | (simp [upN_len]; done) | (simp [idxBy_len]; done) | (simp [marks_len]; done) | (simp at *; omega)) rfl)) (by simp; omega)) ?_
                    rintro _ _ ⟨ra83, rc83, rfl, rfl⟩
                    refine LJ.norm [_, _] rfl ?_
                    refine LJ.yd rfl (Yd.asS rfl) ?_
                    refine LJ.nil ?_
                    refine CJ.region ?_
                    refine LJ.yd rfl (Yd.mvS rfl) ?_
                    refine LJ.yd rfl (Yd.mvI rfl) ?_
                    refine LJ.slHR 0 rfl rfl rfl rfl (by omega) (by first | rfl | omega | (simp; done) | (simp; omega) | (simp [upN_len]; omega) | (simp [idxBy_len]; omega) | (simp [marks_len]; omega) | (simp [upN_len]; done) | (simp [idxBy_len]; done) | (simp [marks_len]; done) | (simp at *; omega)) (fun sm86 hsm86 hs86 => ?_)
                    refine LJ.yd rfl (Yd.mvI rfl) ?_
                    refine LJ.op rfl (OpR.buildSlice (cs := [_]) rfl rfl) ?_
                    rintro _ _ ⟨b9, rfl, rfl⟩
                    refine LJ.imp1 0 rfl (fun _ r => Row.shorten sm86 (by first | rfl | omega | (simp; done) | (simp; omega) | (simp [upN_len]; omega) | (simp [idxBy_len]; omega) | (simp [marks_len]; omega) | (simp [upN_len]; done) | (simp [idxBy_len]; done) | (simp [marks_len]; done) | (simp at *; omega)) r) ?_
                    refine LJ.norm [_, _, _] rfl ?_
                    refine LJ.op rfl (OpR.apT (enc := encI) [_] 0 2 rfl rfl rfl (by first | rfl | omega | (simp; done) | (simp; omega) | (simp [upN_len]; omega) | (simp [idxBy_len]; omega) | (simp [marks_len]; omega) | (simp [upN_len]; done) | (simp [idxBy_len]; done) | (simp [marks_len]; done) | (simp at *; omega)) rfl rfl rfl rfl rfl (by first | rfl | omega | (simp; done) | (simp; omega) | (simp [upN_len]; omega) | (simp [idxBy_len]; omega) | (simp [marks_len]; omega) | (simp [upN_len]; done) | (simp [idxBy_len]; done) | (simp [marks_len]; done) | (simp at *; omega))) ?_
                    rintro _ _ ⟨ra89, rc89, rfl, rfl⟩
                    refine LJ.norm [_, _, _] rfl ?_
                    refine LJ.yd rfl (Yd.mvS rfl) ?_
                    refine LJ.op rfl (OpR.apR (enc := encI) 0 1 rfl rfl rfl (by first | rfl | omega | (simp; done) | (simp; omega) | (simp [upN_len]; omega) | (simp [idxBy_len]; omega) | (simp [marks_len]; omega) | (simp [upN_len]; done) | (simp [idxBy_len]; done) | (simp [marks_len]; done) | (simp at *; omega)) rfl (by first | rfl | omega | (simp; done) | (simp; omega) | (simp [upN_len]; omega) | (simp [idxBy_len]; omega) | (simp [marks_len]; omega) | (simp [upN_len]; done) | (simp [idxBy_len]; done) | (simp [marks_len]; done) | (simp at *; omega)) (fun _ => rfl) (by first | rfl | omega | (simp; done) | (simp; omega) | (simp [upN_len]; omega) | (simp [idxBy_len]; omega) | (simp [marks_len]; omega) | (simp [upN_len]; done) | (simp [idxBy_len]; done) | (simp [marks_len]; done) | (simp at *; omega))) ?_
                    rintro _ _ ⟨ra91, rc91, rfl, rfl⟩
                    refine LJ.norm [_, _, _] rfl ?_
                    refine LJ.yd rfl (Yd.asS rfl) ?_
                    refine LJ.nil ?_
                    refine CJ.region ?_
                    refine LJ.yd rfl (Yd.mvI rfl) ?_
                    refine LJ.yd rfl (Yd.add rfl rfl (by unfold I64; omega)) ?_
                    refine LJ.yd rfl (Yd.asI rfl) ?_
                    refine LJ.nil ?_
                    refine ⟨(k + 1, _, _, _, _), ?_, ⟨rfl, rfl, rfl, rfl, rfl, trivial⟩, ⟨rfl, rfl, trivial⟩, Ent.pick [0] [1, 2] rfl, ?_⟩
                    · refine ⟨(by first | rfl | omega | (simp; done) | (simp; omega) | (simp [upN_len]; omega) | (simp [idxBy_len]; omega) | (simp [marks_len]; omega) | (simp [upN_len]; done) | (simp [idxBy_len]; done) | (simp [marks_len]; done) | (simp at *; omega)), ?_⟩
                      refine ⟨by omega, ?_⟩
                      first
                        | (rw [seqJ_succ, if_neg (by simp only [fstJ, gjC' hu24]; simp [h30]; omega), List.append_nil]; exact hp2)
                        | (rw [seqJ_succ, if_pos (by simp only [fstJ, gjC' hu24]; simp [h30]; omega), insAll_append, ← hp2, insAll, insAll, hsm86, ← e2]; simp)
                    · first | omega | (dsimp only; omega) | (simp only []; omega)
                  · refine DJ.yd 22 rfl (by kernel_rfl) (by kernel_rfl) (by kernel_rfl) rfl rfl (Yd.mvB rfl) ?_
                    refine DJ.yd 23 rfl (by kernel_rfl) (by kernel_rfl) (by kernel_rfl) rfl rfl (Yd.cmpT (Yd.eqlB rfl rfl) (by decide)) ?_
                    refine DJ.yd 24 rfl (by kernel_rfl) (by kernel_rfl) (by kernel_rfl) rfl rfl (Yd.pickTB rfl rfl) ?_
                    refine DJ.yd 25 rfl (by kernel_rfl) (by kernel_rfl) (by kernel_rfl) rfl rfl (Yd.mvB rfl) ?_
                    refine DJ.yd 26 rfl (by kernel_rfl) (by kernel_rfl) (by kernel_rfl) rfl rfl (Yd.mvS rfl) ?_
                    refine DJ.yd 27 rfl (by kernel_rfl) (by kernel_rfl) (by kernel_rfl) rfl rfl (Yd.mvS rfl) ?_
                    refine DJ.yd 28 rfl (by kernel_rfl) (by kernel_rfl) (by kernel_rfl) rfl rfl (Yd.mvI rfl) ?_
                    refine DJ.yd 29 rfl (by kernel_rfl) (by kernel_rfl) (by kernel_rfl) rfl rfl (Yd.sub rfl rfl (by unfold I64; omega)) ?_
                    refine DJ.idxF 0 rfl 30 rfl (by kernel_rfl) (by kernel_rfl) (by kernel_rfl) rfl rfl rfl rfl (by omega) (by first | rfl | omega | (simp; done) | (simp; omega) | (simp [upN_len]; omega) | (simp [idxBy_len]; omega) | (simp [marks_len]; omega) | (simp [upN_len]; done) | (simp [idxBy_len]; done) | (simp [marks_len]; done) | (simp at *; omega)) (by first | rfl | omega | (simp; done) | (simp; omega) | (simp [upN_len]; omega) | (simp [idxBy_len]; omega) | (simp [marks_len]; omega) | (simp [upN_len]; done) | (simp [idxBy_len]; done) | (simp [marks_len]; done) | (simp at *; omega)) (fun ib67 ia67 => ?_)
                    refine DJ.ldF 31 rfl (by kernel_rfl) (by kernel_rfl) (by kernel_rfl) rfl rfl 0 0 (fun u => vI u) (fun _ => rfl) rfl ia67 rfl rfl (by first | rfl | omega | (simp; done) | (simp; omega) | (simp [upN_len]; omega) | (simp [idxBy_len]; omega) | (simp [marks_len]; omega) | (simp [upN_len]; done) | (simp [idxBy_len]; done) | (simp [marks_len]; done) | (simp at *; omega)) (fun u68 hu68 => ?_)
                    try simp only [Int.toNat_natCast] at hu68
                    rw [e31] at hu68
                    obtain rfl : u45 = u68 := by rw [hu45] at hu68; exact Option.some.inj hu68
                    refine DJ.idxA 32 rfl (by kernel_rfl) (by kernel_rfl) (by kernel_rfl) rfl rfl hl rfl rfl (by omega) (by first | rfl | omega | (simp; done) | (simp; omega) | (simp [upN_len]; omega) | (simp [idxBy_len]; omega) | (simp [marks_len]; omega) | (simp [upN_len]; done) | (simp [idxBy_len]; done) | (simp [marks_len]; done) | (simp at *; omega)) (fun ib69 io69 ia69 ir69 => ?_)
                    refine DJ.lgA 33 rfl (by kernel_rfl) (by kernel_rfl) (by kernel_rfl) rfl rfl (enc := Job.enc) (fun u => [vI u.Cut, vI u.Heat]) (fun _ => rfl) (fun _ => rfl) ir69 rfl rfl (by first | rfl | omega | (simp; done) | (simp; omega) | (simp [upN_len]; omega) | (simp [idxBy_len]; omega) | (simp [marks_len]; omega) | (simp [upN_len]; done) | (simp [idxBy_len]; done) | (simp [marks_len]; done) | (simp at *; omega)) (fun u70 hu70 => ?_)
                    try simp only [Int.toNat_natCast] at hu70
                    obtain rfl : u48 = u70 := by rw [hu48] at hu70; exact Option.some.inj hu70
                    refine DJ.yd 34 rfl (by kernel_rfl) (by kernel_rfl) (by kernel_rfl) rfl rfl (Yd.mvS rfl) ?_
                    refine DJ.yd 35 rfl (by kernel_rfl) (by kernel_rfl) (by kernel_rfl) rfl rfl (Yd.mvI rfl) ?_
                    refine DJ.idxA 36 rfl (by kernel_rfl) (by kernel_rfl) (by kernel_rfl) rfl rfl hl rfl rfl (by omega) (by first | rfl | omega | (simp; done) | (simp; omega) | (simp [upN_len]; omega) | (simp [idxBy_len]; omega) | (simp [marks_len]; omega) | (simp [upN_len]; done) | (simp [idxBy_len]; done) | (simp [marks_len]; done) | (simp at *; omega)) (fun ib73 io73 ia73 ir73 => ?_)
                    refine DJ.lgA 37 rfl (by kernel_rfl) (by kernel_rfl) (by kernel_rfl) rfl rfl (enc := Job.enc) (fun u => [vI u.Cut, vI u.Heat]) (fun _ => rfl) (fun _ => rfl) ir73 rfl rfl (by first | rfl | omega | (simp; done) | (simp; omega) | (simp [upN_len]; omega) | (simp [idxBy_len]; omega) | (simp [marks_len]; omega) | (simp [upN_len]; done) | (simp [idxBy_len]; done) | (simp [marks_len]; done) | (simp at *; omega)) (fun u74 hu74 => ?_)
                    try simp only [Int.toNat_natCast] at hu74
                    obtain rfl : u24 = u74 := by rw [hu24] at hu74; exact Option.some.inj hu74
                    refine DJ.yd 38 rfl (by kernel_rfl) (by kernel_rfl) (by kernel_rfl) rfl rfl (Yd.mvB rfl) ?_
                    refine DJ.one (i := 39) (by kernel_rfl) ?_
                    refine DO.callB rfl rfl rfl (fun k0 hk0 dk0 k hk dk => comesAfter_ok) (fun h76 => ?_) (fun h76 => ?_)
                    · refine DJ.yd 40 rfl (by kernel_rfl) (by kernel_rfl) (by kernel_rfl) rfl rfl (Yd.pickTB rfl rfl) ?_
                      refine DJ.done (by kernel_rfl) ?_
                      refine CJ.condT rfl ?_
                      refine CJ.skip ?_
                      refine CJ.block ?_
                      refine CJ.region ?_
                      refine LJ.yd rfl (Yd.mvI rfl) ?_
                      refine LJ.yd rfl (Yd.sub rfl rfl (by unfold I64; omega)) ?_
                      refine LJ.yd rfl (Yd.asI rfl) ?_
                      refine LJ.nil ?_
                      refine ⟨_, ?_, ⟨rfl, rfl, rfl, rfl, rfl, rfl, rfl, rfl, rfl, rfl, rfl, rfl, rfl, rfl, rfl, rfl, rfl, rfl, rfl, rfl, rfl, rfl, rfl, rfl, rfl, rfl, rfl, rfl, rfl, trivial⟩, ⟨rfl, trivial⟩, Ent.refl _, ?_⟩
                      · have hlt : ltK l k u45 = true := by
                          simp only [ltK, fstJ, gjC' hu24, gjC hu48]
                          simp [h30, h58]
                          simpa using h76
                        exact ⟨by omega, by omega, by rw [← hj2, e31]; exact (ins_step (by omega) hu45 hlt).symm⟩
                      · first | omega | (dsimp only; omega) | (simp only []; omega)
                    · refine DJ.yd 40 rfl (by kernel_rfl) (by kernel_rfl) (by kernel_rfl) rfl rfl (Yd.pickTB rfl rfl) ?_
                      refine DJ.done (by kernel_rfl) ?_
                      refine CJ.condF rfl ?_
                      refine CJ.exit ?_
                      refine CJ.seq ?_
                      have e2 : p.take j.toNat ++ (k : Int) :: p.drop j.toNat = (ins (ltK l) k p.reverse).reverse := by
                        rw [← hj2]
                        first
                          | (have e3 : j.toNat = 0 := by omega
                             rw [e3]; exact ins_zero.symm)
                          | (have hlt : ¬ ltK l k u45 = true := by
                               simp only [ltK, fstJ, gjC' hu24, gjC hu48]
                               simp [h30, h58]
                               done
                             exact (ins_stop (by omega) hu45 hlt).symm)
                          | (have hlt : ¬ ltK l k u45 = true := by
                               simp only [ltK, fstJ, gjC' hu24, gjC hu48]
                               simp [h30, h58]
                               simpa using h76
                             exact (ins_stop (by omega) hu45 hlt).symm)
                      refine CJ.region ?_
                      refine LJ.yd rfl (Yd.mvS rfl) ?_
                      refine LJ.yd rfl (Yd.mvI rfl) ?_
                      refine LJ.slLR 0 rfl rfl rfl rfl (by omega) (by first | rfl | omega | (simp; done) | (simp; omega) | (simp [upN_len]; omega) | (simp [idxBy_len]; omega) | (simp [marks_len]; omega) | (simp [upN_len]; done) | (simp [idxBy_len]; done) | (simp [marks_len]; done) | (simp at *; omega)) (by first | rfl | omega | (simp; done) | (simp; omega) | (simp [upN_len]; omega) | (simp [idxBy_len]; omega) | (simp [marks_len]; omega) | (simp [upN_len]; done) | (simp [idxBy_len]; done) | (simp [marks_len]; done) | (simp at *; omega)) (fun sa82 sm82 sc82 hsm82 hs82 => ?_)
                      refine LJ.call0 rfl (fun k hk dk => copyInts_ok (hs82 _ (Sts.lr hk dk 0 (by first | rfl | omega | (simp; done) | (simp; omega) | (simp [upN_len]; omega) | (simp [idxBy_len]; omega) | (simp [marks_len]; omega) | (simp [upN_len]; done) | (simp [idxBy_len]; done) | (simp [marks_len]; done) | (simp at *; omega)) rfl)) (by simp; omega)) ?_
                      rintro _ _ ⟨ra83, rc83, rfl, rfl⟩
                      refine LJ.norm [_, _] rfl ?_
                      refine LJ.yd rfl (Yd.asS rfl) ?_
                      refine LJ.nil ?_
                      refine CJ.region ?_
                      refine LJ.yd rfl (Yd.mvS rfl) ?_
                      refine LJ.yd rfl (Yd.mvI rfl) ?_
                      refine LJ.slHR 0 rfl rfl rfl rfl (by omega) (by first | rfl | omega | (simp; done) | (simp; omega) | (simp [upN_len]; omega) | (simp [idxBy_len]; omega) | (simp [marks_len]; omega) | (simp [upN_len]; done) | (simp [idxBy_len]; done) | (simp [marks_len]; done) | (simp at *; omega)) (fun sm86 hsm86 hs86 => ?_)
                      refine LJ.yd rfl (Yd.mvI rfl) ?_
                      refine LJ.op rfl (OpR.buildSlice (cs := [_]) rfl rfl) ?_
                      rintro _ _ ⟨b11, rfl, rfl⟩
                      refine LJ.imp1 0 rfl (fun _ r => Row.shorten sm86 (by first | rfl | omega | (simp; done) | (simp; omega) | (simp [upN_len]; omega) | (simp [idxBy_len]; omega) | (simp [marks_len]; omega) | (simp [upN_len]; done) | (simp [idxBy_len]; done) | (simp [marks_len]; done) | (simp at *; omega)) r) ?_
                      refine LJ.norm [_, _, _] rfl ?_
                      refine LJ.op rfl (OpR.apT (enc := encI) [_] 0 2 rfl rfl rfl (by first | rfl | omega | (simp; done) | (simp; omega) | (simp [upN_len]; omega) | (simp [idxBy_len]; omega) | (simp [marks_len]; omega) | (simp [upN_len]; done) | (simp [idxBy_len]; done) | (simp [marks_len]; done) | (simp at *; omega)) rfl rfl rfl rfl rfl (by first | rfl | omega | (simp; done) | (simp; omega) | (simp [upN_len]; omega) | (simp [idxBy_len]; omega) | (simp [marks_len]; omega) | (simp [upN_len]; done) | (simp [idxBy_len]; done) | (simp [marks_len]; done) | (simp at *; omega))) ?_
                      rintro _ _ ⟨ra89, rc89, rfl, rfl⟩
                      refine LJ.norm [_, _, _] rfl ?_
                      refine LJ.yd rfl (Yd.mvS rfl) ?_
                      refine LJ.op rfl (OpR.apR (enc := encI) 0 1 rfl rfl rfl (by first | rfl | omega | (simp; done) | (simp; omega) | (simp [upN_len]; omega) | (simp [idxBy_len]; omega) | (simp [marks_len]; omega) | (simp [upN_len]; done) | (simp [idxBy_len]; done) | (simp [marks_len]; done) | (simp at *; omega)) rfl (by first | rfl | omega | (simp; done) | (simp; omega) | (simp [upN_len]; omega) | (simp [idxBy_len]; omega) | (simp [marks_len]; omega) | (simp [upN_len]; done) | (simp [idxBy_len]; done) | (simp [marks_len]; done) | (simp at *; omega)) (fun _ => rfl) (by first | rfl | omega | (simp; done) | (simp; omega) | (simp [upN_len]; omega) | (simp [idxBy_len]; omega) | (simp [marks_len]; omega) | (simp [upN_len]; done) | (simp [idxBy_len]; done) | (simp [marks_len]; done) | (simp at *; omega))) ?_
                      rintro _ _ ⟨ra91, rc91, rfl, rfl⟩
                      refine LJ.norm [_, _, _] rfl ?_
                      refine LJ.yd rfl (Yd.asS rfl) ?_
                      refine LJ.nil ?_
                      refine CJ.region ?_
                      refine LJ.yd rfl (Yd.mvI rfl) ?_
                      refine LJ.yd rfl (Yd.add rfl rfl (by unfold I64; omega)) ?_
                      refine LJ.yd rfl (Yd.asI rfl) ?_
                      refine LJ.nil ?_
                      refine ⟨(k + 1, _, _, _, _), ?_, ⟨rfl, rfl, rfl, rfl, rfl, trivial⟩, ⟨rfl, rfl, trivial⟩, Ent.pick [0] [1, 2] rfl, ?_⟩
                      · refine ⟨(by first | rfl | omega | (simp; done) | (simp; omega) | (simp [upN_len]; omega) | (simp [idxBy_len]; omega) | (simp [marks_len]; omega) | (simp [upN_len]; done) | (simp [idxBy_len]; done) | (simp [marks_len]; done) | (simp at *; omega)), ?_⟩
                        refine ⟨by omega, ?_⟩
                        first
                          | (rw [seqJ_succ, if_neg (by simp only [fstJ, gjC' hu24]; simp [h30]; omega), List.append_nil]; exact hp2)
                          | (rw [seqJ_succ, if_pos (by simp only [fstJ, gjC' hu24]; simp [h30]; omega), insAll_append, ← hp2, insAll, insAll, hsm86, ← e2]; simp)
                      · first | omega | (dsimp only; omega) | (simp only []; omega)
                · refine DJ.yd 2 rfl (by kernel_rfl) (by kernel_rfl) (by kernel_rfl) rfl rfl (Yd.mvB rfl) ?_
                  refine DJ.skip 3 rfl (by kernel_rfl) (by kernel_rfl) (by kernel_rfl) rfl rfl ?_
                  refine DJ.skip 4 rfl (by kernel_rfl) (by kernel_rfl) (by kernel_rfl) rfl rfl ?_
                  refine DJ.skip 5 rfl (by kernel_rfl) (by kernel_rfl) (by kernel_rfl) rfl rfl ?_
                  refine DJ.skip 6 rfl (by kernel_rfl) (by kernel_rfl) (by kernel_rfl) rfl rfl ?_
                  refine DJ.skip 7 rfl (by kernel_rfl) (by kernel_rfl) (by kernel_rfl) rfl rfl ?_
                  refine DJ.skip 8 rfl (by kernel_rfl) (by kernel_rfl) (by kernel_rfl) rfl rfl ?_
                  refine DJ.skip 9 rfl (by kernel_rfl) (by kernel_rfl) (by kernel_rfl) rfl rfl ?_
                  refine DJ.skip 10 rfl (by kernel_rfl) (by kernel_rfl) (by kernel_rfl) rfl rfl ?_
                  refine DJ.skip 11 rfl (by kernel_rfl) (by kernel_rfl) (by kernel_rfl) rfl rfl ?_
                  refine DJ.skip 12 rfl (by kernel_rfl) (by kernel_rfl) (by kernel_rfl) rfl rfl ?_
                  refine DJ.skip 13 rfl (by kernel_rfl) (by kernel_rfl) (by kernel_rfl) rfl rfl ?_
                  refine DJ.skip 14 rfl (by kernel_rfl) (by kernel_rfl) (by kernel_rfl) rfl rfl ?_
                  refine DJ.skip 15 rfl (by kernel_rfl) (by kernel_rfl) (by kernel_rfl) rfl rfl ?_
                  refine DJ.skip 16 rfl (by kernel_rfl) (by kernel_rfl) (by kernel_rfl) rfl rfl ?_
                  refine DJ.skip 17 rfl (by kernel_rfl) (by kernel_rfl) (by kernel_rfl) rfl rfl ?_
                  refine DJ.skip 18 rfl (by kernel_rfl) (by kernel_rfl) (by kernel_rfl) rfl rfl ?_
                  refine DJ.skip 19 rfl (by kernel_rfl) (by kernel_rfl) (by kernel_rfl) rfl rfl ?_
                  refine DJ.skip 20 rfl (by kernel_rfl) (by kernel_rfl) (by kernel_rfl) rfl rfl ?_
                  refine DJ.skip 21 rfl (by kernel_rfl) (by kernel_rfl) (by kernel_rfl) rfl rfl ?_
                  refine DJ.skip 22 rfl (by kernel_rfl) (by kernel_rfl) (by kernel_rfl) rfl rfl ?_
                  refine DJ.skip 23 rfl (by kernel_rfl) (by kernel_rfl) (by kernel_rfl) rfl rfl ?_
                  refine DJ.yd 24 rfl (by kernel_rfl) (by kernel_rfl) (by kernel_rfl) rfl rfl (Yd.pickFB rfl rfl) ?_
                  refine DJ.yd 25 rfl (by kernel_rfl) (by kernel_rfl) (by kernel_rfl) rfl rfl (Yd.mvB rfl) ?_
                  refine DJ.skip 26 rfl (by kernel_rfl) (by kernel_rfl) (by kernel_rfl) rfl rfl ?_
                  refine DJ.skip 27 rfl (by kernel_rfl) (by kernel_rfl) (by kernel_rfl) rfl rfl ?_
                  refine DJ.skip 28 rfl (by kernel_rfl) (by kernel_rfl) (by kernel_rfl) rfl rfl ?_
                  refine DJ.skip 29 rfl (by kernel_rfl) (by kernel_rfl) (by kernel_rfl) rfl rfl ?_
                  refine DJ.skip 30 rfl (by kernel_rfl) (by kernel_rfl) (by kernel_rfl) rfl rfl ?_
                  refine DJ.skip 31 rfl (by kernel_rfl) (by kernel_rfl) (by kernel_rfl) rfl rfl ?_
                  refine DJ.skip 32 rfl (by kernel_rfl) (by kernel_rfl) (by kernel_rfl) rfl rfl ?_
                  refine DJ.skip 33 rfl (by kernel_rfl) (by kernel_rfl) (by kernel_rfl) rfl rfl ?_
                  refine DJ.skip 34 rfl (by kernel_rfl) (by kernel_rfl) (by kernel_rfl) rfl rfl ?_
                  refine DJ.skip 35 rfl (by kernel_rfl) (by kernel_rfl) (by kernel_rfl) rfl rfl ?_
                  refine DJ.skip 36 rfl (by kernel_rfl) (by kernel_rfl) (by kernel_rfl) rfl rfl ?_
                  refine DJ.skip 37 rfl (by kernel_rfl) (by kernel_rfl) (by kernel_rfl) rfl rfl ?_
                  refine DJ.skip 38 rfl (by kernel_rfl) (by kernel_rfl) (by kernel_rfl) rfl rfl ?_
                  refine DJ.skip 39 rfl (by kernel_rfl) (by kernel_rfl) (by kernel_rfl) rfl rfl ?_
                  refine DJ.yd 40 rfl (by kernel_rfl) (by kernel_rfl) (by kernel_rfl) rfl rfl (Yd.pickFB rfl rfl) ?_
                  refine DJ.done (by kernel_rfl) ?_
                  refine CJ.condF rfl ?_
                  refine CJ.exit ?_
                  refine CJ.seq ?_
                  have e2 : p.take j.toNat ++ (k : Int) :: p.drop j.toNat = (ins (ltK l) k p.reverse).reverse := by
                    rw [← hj2]
                    first
                      | (have e3 : j.toNat = 0 := by omega
                         rw [e3]; exact ins_zero.symm)
                      | (have hlt : ¬ ltK l k u45 = true := by
                           simp only [ltK, fstJ, gjC' hu24, gjC hu48]
                           simp [h30, h58]
                           done
                         exact (ins_stop (by omega) hu45 hlt).symm)
                      | (have hlt : ¬ ltK l k u45 = true := by
                           simp only [ltK, fstJ, gjC' hu24, gjC hu48]
                           simp [h30, h58]
                           simpa using h76
                         exact (ins_stop (by omega) hu45 hlt).symm)
                  refine CJ.region ?_
                  refine LJ.yd rfl (Yd.mvS rfl) ?_
                  refine LJ.yd rfl (Yd.mvI rfl) ?_
                  refine LJ.slLR 0 rfl rfl rfl rfl (by omega) (by first | rfl | omega | (simp; done) | (simp; omega) | (simp [upN_len]; omega) | (simp [idxBy_len]; omega) | (simp [marks_len]; omega) | (simp [upN_len]; done) | (simp [idxBy_len]; done) | (simp [marks_len]; done) | (simp at *; omega)) (by first | rfl | omega | (simp; done) | (simp; omega) | (simp [upN_len]; omega) | (simp [idxBy_len]; omega) | (simp [marks_len]; omega) | (simp [upN_len]; done) | (simp [idxBy_len]; done) | (simp [marks_len]; done) | (simp at *; omega)) (fun sa82 sm82 sc82 hsm82 hs82 => ?_)
                  refine LJ.call0 rfl (fun k hk dk => copyInts_ok (hs82 _ (Sts.lr hk dk 0 (by first | rfl | omega | (simp; done) | (simp; omega) | (simp [upN_len]; omega) | (simp [idxBy_len]; omega) | (simp [marks_len]; omega) | (simp [upN_len]; done) | (simp [idxBy_len]; done) | (simp [marks_len]; done) | (simp at *; omega)) rfl)) (by simp; omega)) ?_
                  rintro _ _ ⟨ra83, rc83, rfl, rfl⟩
                  refine LJ.norm [_, _] rfl ?_
                  refine LJ.yd rfl (Yd.asS rfl) ?_
                  refine LJ.nil ?_
                  refine CJ.region ?_
                  refine LJ.yd rfl (Yd.mvS rfl) ?_
                  refine LJ.yd rfl (Yd.mvI rfl) ?_
                  refine LJ.slHR 0 rfl rfl rfl rfl (by omega) (by first | rfl | omega | (simp; done) | (simp; omega) | (simp [upN_len]; omega) | (simp [idxBy_len]; omega) | (simp [marks_len]; omega) | (simp [upN_len]; done) | (simp [idxBy_len]; done) | (simp [marks_len]; done) | (simp at *; omega)) (fun sm86 hsm86 hs86 => ?_)
                  refine LJ.yd rfl (Yd.mvI rfl) ?_
                  refine LJ.op rfl (OpR.buildSlice (cs := [_]) rfl rfl) ?_
                  rintro _ _ ⟨b13, rfl, rfl⟩
                  refine LJ.imp1 0 rfl (fun _ r => Row.shorten sm86 (by first | rfl | omega | (simp; done) | (simp; omega) | (simp [upN_len]; omega) | (simp [idxBy_len]; omega) | (simp [marks_len]; omega) | (simp [upN_len]; done) | (simp [idxBy_len]; done) | (simp [marks_len]; done) | (simp at *; omega)) r) ?_
                  refine LJ.norm [_, _, _] rfl ?_
                  refine LJ.op rfl (OpR.apT (enc := encI) [_] 0 2 rfl rfl rfl (by first | rfl | omega | (simp; done) | (simp; omega) | (simp [upN_len]; omega) | (simp [idxBy_len]; omega) | (simp [marks_len]; omega) | (simp [upN_len]; done) | (simp [idxBy_len]; done) | (simp [marks_len]; done) | (simp at *; omega)) rfl rfl rfl rfl rfl (by first | rfl | omega | (simp; done) | (simp; omega) | (simp [upN_len]; omega) | (simp [idxBy_len]; omega) | (simp [marks_len]; omega) | (simp [upN_len]; done) | (simp [idxBy_len]; done) | (simp [marks_len]; done) | (simp at *; omega))) ?_
                  rintro _ _ ⟨ra89, rc89, rfl, rfl⟩
                  refine LJ.norm [_, _, _] rfl ?_
                  refine LJ.yd rfl (Yd.mvS rfl) ?_
                  refine LJ.op rfl (OpR.apR (enc := encI) 0 1 rfl rfl rfl (by first | rfl | omega | (simp; done) | (simp; omega) | (simp [upN_len]; omega) | (simp [idxBy_len]; omega) | (simp [marks_len]; omega) | (simp [upN_len]; done) | (simp [idxBy_len]; done) | (simp [marks_len]; done) | (simp at *; omega)) rfl (by first | rfl | omega | (simp; done) | (simp; omega) | (simp [upN_len]; omega) | (simp [idxBy_len]; omega) | (simp [marks_len]; omega) | (simp [upN_len]; done) | (simp [idxBy_len]; done) | (simp [marks_len]; done) | (simp at *; omega)) (fun _ => rfl) (by first | rfl | omega | (simp; done) | (simp; omega) | (simp [upN_len]; omega) | (simp [idxBy_len]; omega) | (simp [marks_len]; omega) | (simp [upN_len]; done) | (simp [idxBy_len]; done) | (simp [marks_len]; done) | (simp at *; omega))) ?_
                  rintro _ _ ⟨ra91, rc91, rfl, rfl⟩
                  refine LJ.norm [_, _, _] rfl ?_
                  refine LJ.yd rfl (Yd.asS rfl) ?_
                  refine LJ.nil ?_
                  refine CJ.region ?_
                  refine LJ.yd rfl (Yd.mvI rfl) ?_
                  refine LJ.yd rfl (Yd.add rfl rfl (by unfold I64; omega)) ?_
                  refine LJ.yd rfl (Yd.asI rfl) ?_
                  refine LJ.nil ?_
                  refine ⟨(k + 1, _, _, _, _), ?_, ⟨rfl, rfl, rfl, rfl, rfl, trivial⟩, ⟨rfl, rfl, trivial⟩, Ent.pick [0] [1, 2] rfl, ?_⟩
                  · refine ⟨(by first | rfl | omega | (simp; done) | (simp; omega) | (simp [upN_len]; omega) | (simp [idxBy_len]; omega) | (simp [marks_len]; omega) | (simp [upN_len]; done) | (simp [idxBy_len]; done) | (simp [marks_len]; done) | (simp at *; omega)), ?_⟩
                    refine ⟨by omega, ?_⟩
                    first
                      | (rw [seqJ_succ, if_neg (by simp only [fstJ, gjC' hu24]; simp [h30]; omega), List.append_nil]; exact hp2)
                      | (rw [seqJ_succ, if_pos (by simp only [fstJ, gjC' hu24]; simp [h30]; omega), insAll_append, ← hp2, insAll, insAll, hsm86, ← e2]; simp)
                  · first | omega | (dsimp only; omega) | (simp only []; omega)
            · refine LJ.yd rfl (Yd.cmpT (Yd.eqlB rfl rfl) (by decide)) ?_
              refine LJ.nil ?_
              refine CJ.condT rfl ?_
              refine CJ.exit ?_
              refine CJ.region ?_
              refine LJ.yd rfl (Yd.mvI rfl) ?_
              refine LJ.yd rfl (Yd.add rfl rfl (by unfold I64; omega)) ?_
              refine LJ.yd rfl (Yd.asI rfl) ?_
              refine LJ.nil ?_
              refine ⟨(k + 1, _, _, _, _), ?_, ⟨rfl, rfl, rfl, rfl, rfl, trivial⟩, ⟨rfl, rfl, trivial⟩, Ent.refl _, ?_⟩
              · refine ⟨(by first | rfl | omega | (simp; done) | (simp; omega) | (simp [upN_len]; omega) | (simp [idxBy_len]; omega) | (simp [marks_len]; omega) | (simp [upN_len]; done) | (simp [idxBy_len]; done) | (simp [marks_len]; done) | (simp at *; omega)), ?_⟩
                refine ⟨by omega, ?_⟩
                first
                  | (rw [seqJ_succ, if_neg (by simp only [fstJ, gjC' hu24]; simp [h30]; omega), List.append_nil]; exact hp2)
                  | (rw [seqJ_succ, if_pos (by simp only [fstJ, gjC' hu24]; simp [h30]; omega), insAll_append, ← hp2, insAll, insAll, hsm86, ← e2]; simp)
              · first | omega | (dsimp only; omega) | (simp only []; omega)
        · refine LJ.nil ?_
          refine CJ.condF rfl ?_
          refine CJ.exit ?_
          refine CJ.region ?_
          refine LJ.yd rfl (Yd.mvI rfl) ?_
          refine LJ.yd rfl (Yd.add rfl rfl (by unfold I64; omega)) ?_
          refine LJ.yd rfl (Yd.asI rfl) ?_
          refine LJ.nil ?_
          refine ⟨(e + 1, _, _, _, _), ?_, ⟨rfl, rfl, trivial⟩, ⟨rfl, rfl, trivial⟩, Ent.refl _, ?_⟩
          · refine ⟨(by first | rfl | omega | (simp; done) | (simp; omega) | (simp [upN_len]; omega) | (simp [idxBy_len]; omega) | (simp [marks_len]; omega) | (simp [upN_len]; done) | (simp [idxBy_len]; done) | (simp [marks_len]; done) | (simp at *; omega)), ?_⟩
            refine ⟨by omega, ?_⟩
            rw [hp2, if_neg (by omega)]; congr 1; rw [Nat.add_sub_cancel]; congr 1; omega
          · first | omega | (dsimp only; omega) | (simp only []; omega)
    · refine LJ.nil ?_
      refine CJ.condF rfl ?_
      refine CJ.exit ?_
      refine CJ.seq ?_
      refine CJ.region ?_
      refine LJ.yd rfl (Yd.mvS rfl) ?_
      refine LJ.yd rfl (Yd.asS rfl) ?_
      refine LJ.nil ?_
      refine CJ.ret ?_
      refine Fin.RL 0 (Res.one (ResV.tmp (v := .slice _ _ _) rfl)) rfl (by first | rfl | omega | (simp; done) | (simp; omega) | (simp [upN_len]; omega) | (simp [idxBy_len]; omega) | (simp [marks_len]; omega) | (simp [upN_len]; done) | (simp [idxBy_len]; done) | (simp [marks_len]; done) | (simp at *; omega)) ?_
      rw [hp, if_neg (by omega), show e - 1 = 1 by omega]
end Go.Proofs.Ytbgalcjkmgdaiaa
