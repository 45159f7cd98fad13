/-
  First fit on falling lengths: the law.
-/
import Derived.Test.YtlknglhldfpbdaaA10
namespace Go.Proofs.Ytlknglhldfpbdaa
open Go
set_option maxRecDepth 20000
set_option maxHeartbeats 1000000

def Dn (a b : Int) : Prop := b ≤ a
theorem ins_up {lt : Int → Int → Bool} {key : Int → Int} (hlt : ∀ x y, lt x y = true ↔ key y < key x) {x : Int} : ∀ {r : List Int}, r.Pairwise (fun a b => key a ≤ key b) → (ins lt x r).Pairwise (fun a b => key a ≤ key b)
  | [], _ => by simp [ins]
  | y :: r, h => by
    rw [List.pairwise_cons] at h
    simp only [ins]
    split
    · rename_i hxy
      rw [List.pairwise_cons]
      refine ⟨fun z hz => ?_, ins_up hlt h.2⟩
      rcases ins_mem.1 hz with rfl | hz
      · have := (hlt _ _).1 hxy; omega
      · exact h.1 z hz
    · rename_i hxy
      rw [List.pairwise_cons, List.pairwise_cons]
      have : ¬ key y < key x := fun e => hxy ((hlt _ _).2 e)
      refine ⟨fun z hz => ?_, h⟩
      rcases List.mem_cons.1 hz with rfl | hz
      · omega
      · have := h.1 z hz; omega
theorem insAll_dn {lt : Int → Int → Bool} {key : Int → Int} (hlt : ∀ x y, lt x y = true ↔ key y < key x) : ∀ {r p : List Int}, p.reverse.Pairwise (fun a b => key a ≤ key b) → (insAll lt p r).reverse.Pairwise (fun a b => key a ≤ key b)
  | [], p, h => h
  | x :: r, p, h => by
    rw [insAll]
    refine insAll_dn hlt ?_
    rw [List.reverse_reverse]
    exact ins_up hlt h
theorem falling_dn (l : List Int) : ((idxBy (ltF l) l.length).map (gt l)).Pairwise Dn := by
  have h := insAll_dn (lt := ltF l) (key := gt l) (fun x y => by simp [ltF]) (r := upN l.length) (p := []) (by simp)
  rw [List.pairwise_reverse] at h
  rw [List.pairwise_map]
  exact h
theorem map_gt (l : List Int) : (upN l.length).map (gt l) = l := by
  apply List.ext_getElem?
  intro i
  by_cases h : i < l.length
  · obtain ⟨u, hu⟩ := someC h
    rw [mapUp_get h, gtC' hu, hu]
  · rw [List.getElem?_eq_none (by rw [mapUp_len]; omega), List.getElem?_eq_none (by omega)]
theorem falling_eq {l d : List Int} (hd : d.Pairwise Dn) (hp : d.Perm l) : (idxBy (ltF l) l.length).map (gt l) = d := by
  refine List.Perm.eq_of_pairwise (le := Dn) (fun a b _ _ h1 h2 => ?_) (falling_dn l) hd ?_
  · unfold Dn at h1 h2; omega
  · have := (idxBy_perm (ltF l) l.length).map (gt l)
    rw [map_gt] at this
    exact this.trans hp.symm
def ffV (bar : Int) : List Int → List Int → List Int
  | [], s => s
  | x :: r, s => ffV bar r (fS x bar s)
theorem ffGo_V (l : List Int) (bar : Int) : ∀ (r s o : List Int), (ffGo l bar r s o).1 = ffV bar (r.map (gt l)) s
  | [], _, _ => rfl
  | i :: r, s, o => by rw [ffGo, ffGo_V l bar r]; rfl
theorem ffS_down {l d : List Int} {bar : Int} (hd : d.Pairwise Dn) (hp : d.Perm l) : ffS d bar (upN d.length) = ffS l bar (idxBy (ltF l) l.length) := by
  rw [ffS, ffS, ffGo_V, ffGo_V, map_gt, falling_eq hd hp]
theorem filt_step (l : List Int) (m : Int) : (l.filter (fun u => decide (m < u)) ++ l.filter (fun u => decide (u = m))).Perm (l.filter (fun u => decide (m - 1 < u))) := by
  induction l with
  | nil => simp
  | cons u r ih =>
    by_cases h1 : m < u
    · have h2 : ¬ u = m := by omega
      have h3 : m - 1 < u := by omega
      simp only [List.filter_cons, h1, h2, h3, decide_true, decide_false, if_true, List.cons_append]
      exact ih.cons u
    · by_cases h2 : u = m
      · have h3 : m - 1 < u := by omega
        simp only [List.filter_cons, h1, h3, decide_true, decide_false, if_true]
        rw [if_neg (by simp), if_pos (by simpa using h2)]
        exact List.perm_middle.trans (ih.cons u)
      · have h3 : ¬ m - 1 < u := by omega
        simp only [List.filter_cons, h1, h2, h3, decide_false]
        exact ih
theorem down_snoc {d : List Int} {m : Int} (hd : d.Pairwise Dn) (hm : ∀ u ∈ d, m ≤ u) : (d ++ [m]).Pairwise Dn := by
  rw [List.pairwise_append]
  refine ⟨hd, by simp, fun a ha b hb => ?_⟩
  rw [List.mem_singleton.1 hb]; exact hm a ha
theorem ffR2_len {l o : List Int} {bar : Int} : (if barsOk 20 l bar = true then ffit l bar o else []).length ≤ l.length := by
  split
  · rw [ffit_len]; exact Nat.le_refl _
  · simp
theorem FirstFitI_t {A : Amb} {v : Value} {l : List Int} {bar : Int} (hl : RdL encI 1 A.h v l) (hb : barsOk 20 l bar = true) : Ctr Try.prog 16 #[v, vI bar] A [] (RLP encI 3 1 (ffit l bar (upN l.length))) := by
  have := FirstFitI_ok (bar := bar) hl
  rwa [if_pos hb] at this
theorem FnFirstFitDown_ok {A : Amb} {a : Option Addr} {n c : Nat} (hc : Code A.h a n c) : Ctr Try.prog 10 #[.slice a n c] A [] (Val (.bool true)) := by
  have hcc := hc
  obtain ⟨hcode, hn, ha, hs⟩ := hcc
  refine Ctr.body (args := [_]) Try.func10 rfl Try.ntmps10 Try.results10 (by simp) ?_
  refine CJ.seq ?_
  refine CJ.region ?_
  refine LJ.yd rfl (Yd.asB rfl) ?_
  refine LJ.nil ?_
  refine CJ.seq ?_
  refine CJ.seq ?_
  refine CJ.region ?_
  refine LJ.yd rfl (Yd.mvS rfl) ?_
  refine LJ.yd rfl (Yd.len rfl) ?_
  refine LJ.splitD rfl (Yd.gtr rfl rfl) (fun h11 => ?_) (fun h11 => ?_)
  · refine LJ.nil ?_
    refine CJ.condT rfl ?_
    refine CJ.seq ?_
    refine CJ.region ?_
    refine LJ.yd rfl (Yd.asB rfl) ?_
    refine LJ.nil ?_
    refine CJ.ret ?_
    refine Fin.V (Res.one (ResV.tmp (v := .bool true) rfl)) ?_
    simp
  · refine LJ.nil ?_
    refine CJ.condF rfl ?_
    refine CJ.skip ?_
    refine CJ.seq ?_
    refine CJ.region ?_
    refine LJ.yd rfl (Yd.mvS rfl) ?_
    refine LJ.call0 rfl (fun k hk dk => DrawFirstFitDown_ok hc.up) ?_
    rintro _ _ ⟨l, bar, aa, m, cc, rfl, rfl, rfl, hl1, hb0, hb1, hl2⟩
    refine LJ.norm [_] rfl ?_
    refine LJ.yd rfl (Yd.mvU rfl) ?_
    refine LJ.yd rfl (Yd.extract rfl rfl) ?_
    refine LJ.yd rfl (Yd.extract rfl rfl) ?_
    refine LJ.yd rfl (Yd.asS rfl) ?_
    refine LJ.yd rfl (Yd.asI rfl) ?_
    refine LJ.nil ?_
    refine CJ.seq ?_
    have hRl := ffR2_len (l := l) (bar := bar) (o := idxBy (ltF l) l.length)
    refine CJ.region ?_
    refine LJ.yd rfl (Yd.mvS rfl) ?_
    refine LJ.yd rfl (Yd.mvI rfl) ?_
    refine LJ.call0 rfl (fun k hk dk => FirstFitDownI_ok (Sts.lrm hk dk 0 (by first | rfl | omega | (simp; done) | (simp; omega) | (simp [upN_len]; omega) | (simp [idxBy_len]; omega) | (simp [marks_len]; omega) | (simp [upN_len]; done) | (simp [idxBy_len]; done) | (simp [marks_len]; done) | (simp at *; omega)) (by first | rfl | omega | (simp; done) | (simp; omega) | (simp [upN_len]; omega) | (simp [idxBy_len]; omega) | (simp [marks_len]; omega) | (simp [upN_len]; done) | (simp [idxBy_len]; done) | (simp [marks_len]; done) | (simp at *; omega)) rfl)) ?_
    rintro _ _ ⟨ra19, rc19, rfl, rfl⟩
    refine LJ.norm [_, _] rfl ?_
    refine LJ.yd rfl (Yd.asS rfl) ?_
    refine LJ.nil ?_
    refine CJ.seq ?_
    refine CJ.seq ?_
    refine CJ.region ?_
    refine LJ.yd rfl (Yd.mvS rfl) ?_
    refine LJ.yd rfl (Yd.mvS rfl) ?_
    refine LJ.yd rfl (Yd.mvI rfl) ?_
    refine LJ.call0 rfl (fun k hk dk => FirstFitDownS_ok (Sts.lrm hk dk 0 (by first | rfl | omega | (simp; done) | (simp; omega) | (simp [upN_len]; omega) | (simp [idxBy_len]; omega) | (simp [marks_len]; omega) | (simp [upN_len]; done) | (simp [idxBy_len]; done) | (simp [marks_len]; done) | (simp at *; omega)) (by first | rfl | omega | (simp; done) | (simp; omega) | (simp [upN_len]; omega) | (simp [idxBy_len]; omega) | (simp [marks_len]; omega) | (simp [upN_len]; done) | (simp [idxBy_len]; done) | (simp [marks_len]; done) | (simp at *; omega)) rfl)) ?_
    rintro _ _ ⟨ra23, rc23, rfl, rfl⟩
    refine LJ.norm [_, _, _] rfl ?_
    refine LJ.callV rfl (fun k hk dk => equalInts_eq (Sts.lrm hk dk 1 (by first | rfl | omega | (simp; done) | (simp; omega) | (simp [upN_len]; omega) | (simp [idxBy_len]; omega) | (simp [marks_len]; omega) | (simp [upN_len]; done) | (simp [idxBy_len]; done) | (simp [marks_len]; done) | (simp at *; omega)) (by first | rfl | omega | (simp; done) | (simp; omega) | (simp [upN_len]; omega) | (simp [idxBy_len]; omega) | (simp [marks_len]; omega) | (simp [upN_len]; done) | (simp [idxBy_len]; done) | (simp [marks_len]; done) | (simp at *; omega)) rfl) (Sts.lrm hk dk 2 (by first | rfl | omega | (simp; done) | (simp; omega) | (simp [upN_len]; omega) | (simp [idxBy_len]; omega) | (simp [marks_len]; omega) | (simp [upN_len]; done) | (simp [idxBy_len]; done) | (simp [marks_len]; done) | (simp at *; omega)) (by first | rfl | omega | (simp; done) | (simp; omega) | (simp [upN_len]; omega) | (simp [idxBy_len]; omega) | (simp [marks_len]; omega) | (simp [upN_len]; done) | (simp [idxBy_len]; done) | (simp [marks_len]; done) | (simp at *; omega)) rfl)) ?_
    refine LJ.yd rfl (Yd.not rfl) ?_
    refine LJ.yd rfl (Yd.mvB rfl) ?_
    refine LJ.gT rfl ?_
    refine LJ.yd rfl (Yd.mvS rfl) ?_
    refine LJ.gT rfl ?_
    refine LJ.yd rfl (Yd.len rfl) ?_
    refine LJ.gT rfl ?_
    refine LJ.splitD rfl (Yd.eql rfl rfl) (fun h29 => ?_) (fun h29 => ?_)
    · refine LJ.yd rfl (Yd.pickFB rfl rfl) ?_
      refine LJ.nil ?_
      refine CJ.condT rfl ?_
      refine CJ.seq ?_
      refine CJ.region ?_
      refine LJ.yd rfl (Yd.mvS rfl) ?_
      refine LJ.yd rfl (Yd.mvS rfl) ?_
      refine LJ.yd rfl (Yd.mvI rfl) ?_
      refine LJ.call0 rfl (fun k hk dk => FirstFitDownS_ok (Sts.lrm hk dk 0 (by first | rfl | omega | (simp; done) | (simp; omega) | (simp [upN_len]; omega) | (simp [idxBy_len]; omega) | (simp [marks_len]; omega) | (simp [upN_len]; done) | (simp [idxBy_len]; done) | (simp [marks_len]; done) | (simp at *; omega)) (by first | rfl | omega | (simp; done) | (simp; omega) | (simp [upN_len]; omega) | (simp [idxBy_len]; omega) | (simp [marks_len]; omega) | (simp [upN_len]; done) | (simp [idxBy_len]; done) | (simp [marks_len]; done) | (simp at *; omega)) rfl)) ?_
      rintro _ _ ⟨ra34, rc34, rfl, rfl⟩
      refine LJ.norm [_, _, _, _] rfl ?_
      refine LJ.callV rfl (fun k hk dk => equalInts_eq (Sts.lrm hk dk 1 (by first | rfl | omega | (simp; done) | (simp; omega) | (simp [upN_len]; omega) | (simp [idxBy_len]; omega) | (simp [marks_len]; omega) | (simp [upN_len]; done) | (simp [idxBy_len]; done) | (simp [marks_len]; done) | (simp at *; omega)) (by first | rfl | omega | (simp; done) | (simp; omega) | (simp [upN_len]; omega) | (simp [idxBy_len]; omega) | (simp [marks_len]; omega) | (simp [upN_len]; done) | (simp [idxBy_len]; done) | (simp [marks_len]; done) | (simp at *; omega)) rfl) (Sts.lrm hk dk 3 (by first | rfl | omega | (simp; done) | (simp; omega) | (simp [upN_len]; omega) | (simp [idxBy_len]; omega) | (simp [marks_len]; omega) | (simp [upN_len]; done) | (simp [idxBy_len]; done) | (simp [marks_len]; done) | (simp at *; omega)) (by first | rfl | omega | (simp; done) | (simp; omega) | (simp [upN_len]; omega) | (simp [idxBy_len]; omega) | (simp [marks_len]; omega) | (simp [upN_len]; done) | (simp [idxBy_len]; done) | (simp [marks_len]; done) | (simp at *; omega)) rfl)) ?_
      refine LJ.yd rfl (Yd.asB rfl) ?_
      refine LJ.nil ?_
      refine CJ.ret ?_
      refine Fin.V (Res.one (ResV.tmp (v := .bool true) rfl)) ?_
      simp
    · refine LJ.yd rfl (Yd.pickFB rfl rfl) ?_
      refine LJ.nil ?_
      refine CJ.condF rfl ?_
      refine CJ.skip ?_
      refine CJ.seq ?_
      have hbo : barsOk 20 l bar = true := by
        cases hb : barsOk 20 l bar with
        | true => rfl
        | false => exfalso; rw [hb] at h29; exact h29 rfl
      have hb2 := barsOk_iff.1 hbo
      rw [if_pos hbo] at h29
      rw [if_pos hbo]
      have hol := ffit_len l bar (idxBy (ltF l) l.length)
      have h0 : 0 < l.length := by omega
      have hm := hb2.2
      have hpm := idxBy_perm (ltF l) l.length
      have hor := ffit_lt hm hpm
      have hmx := ff_mx hm hpm h0 0 (by omega)
      have hmx1 := ff_mx hm hpm h0 (-1) (by omega)
      have hsl := ffS_le l bar (idxBy (ltF l) l.length)
      rw [idxBy_len] at hsl
      have hgl : ∀ b, 0 ≤ b → b ≤ (ffit l bar (idxBy (ltF l) l.length)).foldl max (-1) → 1 ≤ ld (ffit l bar (idxBy (ltF l) l.length)) l (upN l.length) b ∧ ld (ffit l bar (idxBy (ltF l) l.length)) l (upN l.length) b ≤ bar := fun b h1 h2 => ff_ld hm hpm h1 (by omega)
      refine CJ.region ?_
      refine LJ.op rfl (OpR.buildSlice (cs := []) rfl rfl) ?_
      rintro _ _ ⟨b4, rfl, rfl⟩
      refine LJ.yd rfl (Yd.asS rfl) ?_
      refine LJ.nil ?_
      refine CJ.seq ?_
      refine CJ.seq ?_
      refine CJ.region ?_
      refine LJ.yd rfl (Yd.mvI rfl) ?_
      refine LJ.yd rfl (Yd.asI rfl) ?_
      refine LJ.nil ?_
      refine CJ.block ?_
      refine CJ.imp1 3 rfl (fun _ h => Cel.lr (enc := encI) (k := 1) (m := 0) [] rfl rfl rfl rfl h) ?_
      refine CJ.norm [_, _, _, _] rfl ?_
      refine CJ.loopF [2, 3, 4, 5] (Int × List Int × Option Addr × Nat × Nat) (fun ⟨e, d, dA, dN, dC⟩ => (dN = d.length) ∧ 0 ≤ e ∧ e ≤ bar ∧ d.Pairwise Dn ∧ (∀ u ∈ d, e < u) ∧ d.Perm (l.filter (fun u => decide (e < u)))) (fun ⟨e, d, dA, dN, dC⟩ => [(7, vI e), (6, .slice dA dN dC)]) (fun ⟨e, d, dA, dN, dC⟩ => [LR encI 3 1 dA dC d]) (fun ⟨e, d, dA, dN, dC⟩ => e.toNat) (bar, [], _, _, _) [_, _, _] [0, 1, 2] [3] rfl rfl rfl ?_ ⟨rfl, rfl, trivial⟩ ?_
      · exact ⟨(by first | rfl | omega | (simp; done) | (simp; omega) | (simp [upN_len]; omega) | (simp [idxBy_len]; omega) | (simp [marks_len]; omega) | (simp [upN_len]; done) | (simp [idxBy_len]; done) | (simp [marks_len]; done) | (simp at *; omega)), ⟨by omega, by omega, by simp, by simp, by rw [List.filter_eq_nil_iff.2 (fun u hu => by have := hm u hu; simp; omega)]⟩⟩
      · rintro ⟨e, d, dA, dN, dC⟩ σ ⟨hlNd, ⟨he0, he1, hd1, hd2, hd3⟩⟩
        subst hlNd
        refine CJ.norm [_, _, _, _] rfl ?_
        have hdl : d.length ≤ l.length := by rw [hd3.length_eq]; exact List.length_filter_le _ _
        refine CJ.seq ?_
        refine CJ.seq ?_
        refine CJ.region ?_
        refine LJ.yd rfl (Yd.mvI rfl) ?_
        refine LJ.splitD rfl (Yd.gtr rfl rfl) (fun h39 => ?_) (fun h39 => ?_)
        · refine LJ.nil ?_
          refine CJ.condT rfl ?_
          refine CJ.skip ?_
          refine CJ.seq ?_
          refine CJ.block ?_
          refine CJ.seq ?_
          refine CJ.region ?_
          refine LJ.yd rfl (Yd.asI rfl) ?_
          refine LJ.nil ?_
          refine CJ.block ?_
          refine CJ.loopF [2, 3, 4, 5, 7, 38, 39] (Nat × List Int × Option Addr × Nat × Nat) (fun ⟨k, q, qA, qN, qC⟩ => (qN = q.length) ∧ k ≤ l.length ∧ q.Pairwise Dn ∧ (∀ u ∈ q, e ≤ u) ∧ q.Perm (l.filter (fun u => decide (e < u)) ++ (l.take k).filter (fun u => decide (u = e)))) (fun ⟨k, q, qA, qN, qC⟩ => [(8, vI k), (6, .slice qA qN qC)]) (fun ⟨k, q, qA, qN, qC⟩ => [LR encI 3 1 qA qC q]) (fun ⟨k, q, qA, qN, qC⟩ => l.length - k) (0, d, _, _, _) [_, _, _] [0, 1, 2] [3] rfl rfl rfl ?_ ⟨rfl, rfl, trivial⟩ ?_
          · exact ⟨(by first | rfl | omega | (simp; done) | (simp; omega) | (simp [upN_len]; omega) | (simp [idxBy_len]; omega) | (simp [marks_len]; omega) | (simp [upN_len]; done) | (simp [idxBy_len]; done) | (simp [marks_len]; done) | (simp at *; omega)), ⟨by omega, hd1, fun u hu => by have := hd2 u hu; omega, by simpa using hd3⟩⟩
          · rintro ⟨k, q, qA, qN, qC⟩ σ ⟨hlNq, ⟨hk1, hi1, hi2, hi3⟩⟩
            subst hlNq
            refine CJ.norm [_, _, _, _] rfl ?_
            have hql : q.length ≤ l.length + k := by
              rw [hi3.length_eq, List.length_append]
              have h1 := List.length_filter_le (fun u => decide (e < u)) l
              have h2 := List.length_filter_le (fun u => decide (u = e)) (l.take k)
              have h3 : (l.take k).length ≤ k := List.length_take_le _ _
              omega
            refine CJ.seq ?_
            refine CJ.seq ?_
            refine CJ.region ?_
            refine LJ.yd rfl (Yd.mvI rfl) ?_
            refine LJ.yd rfl (Yd.mvS rfl) ?_
            refine LJ.yd rfl (Yd.len rfl) ?_
            refine LJ.splitD rfl (Yd.lss rfl rfl) (fun h45 => ?_) (fun h45 => ?_)
            · refine LJ.nil ?_
              refine CJ.condT rfl ?_
              refine CJ.skip ?_
              refine CJ.seq ?_
              refine CJ.block ?_
              refine CJ.seq ?_
              refine CJ.region ?_
              refine LJ.yd rfl (Yd.mvS rfl) ?_
              refine LJ.yd rfl (Yd.mvI rfl) ?_
              refine LJ.idxR 0 rfl rfl rfl rfl (by omega) (by first | rfl | omega | (simp; done) | (simp; omega) | (simp [upN_len]; omega) | (simp [idxBy_len]; omega) | (simp [marks_len]; omega) | (simp [upN_len]; done) | (simp [idxBy_len]; done) | (simp [marks_len]; done) | (simp at *; omega)) (by first | rfl | omega | (simp; done) | (simp; omega) | (simp [upN_len]; omega) | (simp [idxBy_len]; omega) | (simp [marks_len]; omega) | (simp [upN_len]; done) | (simp [idxBy_len]; done) | (simp [marks_len]; done) | (simp at *; omega)) (fun ib50 ia50 => ?_)
              refine LJ.ldR 0 0 (fun u => vI u) (fun _ => rfl) rfl ia50 rfl rfl rfl (by first | rfl | omega | (simp; done) | (simp; omega) | (simp [upN_len]; omega) | (simp [idxBy_len]; omega) | (simp [marks_len]; omega) | (simp [upN_len]; done) | (simp [idxBy_len]; done) | (simp [marks_len]; done) | (simp at *; omega)) (fun u51 hu51 => ?_)
              try simp only [Int.toNat_natCast] at hu51
              refine LJ.yd rfl (Yd.mvI rfl) ?_
              refine LJ.splitD rfl (Yd.eql rfl rfl) (fun h53 => ?_) (fun h53 => ?_)
              · refine LJ.nil ?_
                refine CJ.condT rfl ?_
                refine CJ.region ?_
                refine LJ.yd rfl (Yd.mvS rfl) ?_
                refine LJ.yd rfl (Yd.mvI rfl) ?_
                refine LJ.op rfl (OpR.buildSlice (cs := [_]) rfl rfl) ?_
                rintro _ _ ⟨b5, rfl, rfl⟩
                refine LJ.op rfl (OpR.apT (enc := encI) [_] 3 4 rfl rfl rfl (by first | rfl | omega | (simp; done) | (simp; omega) | (simp [upN_len]; omega) | (simp [idxBy_len]; omega) | (simp [marks_len]; omega) | (simp [upN_len]; done) | (simp [idxBy_len]; done) | (simp [marks_len]; done) | (simp at *; omega)) rfl rfl rfl rfl rfl (by first | rfl | omega | (simp; done) | (simp; omega) | (simp [upN_len]; omega) | (simp [idxBy_len]; omega) | (simp [marks_len]; omega) | (simp [upN_len]; done) | (simp [idxBy_len]; done) | (simp [marks_len]; done) | (simp at *; omega))) ?_
                rintro _ _ ⟨ra57, rc57, rfl, rfl⟩
                refine LJ.norm [_, _, _, _, _] rfl ?_
                refine LJ.yd rfl (Yd.asS rfl) ?_
                refine LJ.nil ?_
                refine CJ.region ?_
                refine LJ.yd rfl (Yd.mvI rfl) ?_
                refine LJ.yd rfl (Yd.add rfl rfl (by unfold I64; omega)) ?_
                refine LJ.yd rfl (Yd.asI rfl) ?_
                refine LJ.nil ?_
                refine ⟨(k + 1, _, _, _, _), ?_, ⟨rfl, rfl, rfl, rfl, rfl, rfl, rfl, trivial⟩, ⟨rfl, rfl, trivial⟩, Ent.pick [0, 1, 2, 3] [4] rfl, ?_⟩
                · refine ⟨(by first | rfl | omega | (simp; done) | (simp; omega) | (simp [upN_len]; omega) | (simp [idxBy_len]; omega) | (simp [marks_len]; omega) | (simp [upN_len]; done) | (simp [idxBy_len]; done) | (simp [marks_len]; done) | (simp at *; omega)), ?_⟩
                  refine ⟨by omega, ?_⟩
                  rw [takeC hu51, List.filter_append]
                  first
                    | (have e2 : [u51].filter (fun u => decide (u = e)) = [u51] := by simp [h53]
                       rw [e2, ← List.append_assoc, h53]
                       exact ⟨down_snoc hi1 hi2, mem_snoc hi2 (by omega), hi3.append_right _⟩)
                    | (have e2 : [u51].filter (fun u => decide (u = e)) = [] := by simp [h53]
                       rw [e2, List.append_nil]
                       exact ⟨hi1, hi2, hi3⟩)
                · first | omega | (dsimp only; omega) | (simp only []; omega)
              · refine LJ.nil ?_
                refine CJ.condF rfl ?_
                refine CJ.skip ?_
                refine CJ.region ?_
                refine LJ.yd rfl (Yd.mvI rfl) ?_
                refine LJ.yd rfl (Yd.add rfl rfl (by unfold I64; omega)) ?_
                refine LJ.yd rfl (Yd.asI rfl) ?_
                refine LJ.nil ?_
                refine ⟨(k + 1, _, _, _, _), ?_, ⟨rfl, rfl, rfl, rfl, rfl, rfl, rfl, trivial⟩, ⟨rfl, rfl, trivial⟩, Ent.refl _, ?_⟩
                · refine ⟨(by first | rfl | omega | (simp; done) | (simp; omega) | (simp [upN_len]; omega) | (simp [idxBy_len]; omega) | (simp [marks_len]; omega) | (simp [upN_len]; done) | (simp [idxBy_len]; done) | (simp [marks_len]; done) | (simp at *; omega)), ?_⟩
                  refine ⟨by omega, ?_⟩
                  rw [takeC hu51, List.filter_append]
                  first
                    | (have e2 : [u51].filter (fun u => decide (u = e)) = [u51] := by simp [h53]
                       rw [e2, ← List.append_assoc, h53]
                       exact ⟨down_snoc hi1 hi2, mem_snoc hi2 (by omega), hi3.append_right _⟩)
                    | (have e2 : [u51].filter (fun u => decide (u = e)) = [] := by simp [h53]
                       rw [e2, List.append_nil]
                       exact ⟨hi1, hi2, hi3⟩)
                · first | omega | (dsimp only; omega) | (simp only []; omega)
            · refine LJ.nil ?_
              refine CJ.condF rfl ?_
              refine CJ.exit ?_
              refine CJ.region ?_
              refine LJ.yd rfl (Yd.mvI rfl) ?_
              refine LJ.yd rfl (Yd.sub rfl rfl (by unfold I64; omega)) ?_
              refine LJ.yd rfl (Yd.asI rfl) ?_
              refine LJ.nil ?_
              refine ⟨(_, _, _, _, _), ?_, ⟨rfl, rfl, rfl, rfl, trivial⟩, ⟨rfl, rfl, trivial⟩, Ent.refl _, ?_⟩
              · refine ⟨(by first | rfl | omega | (simp; done) | (simp; omega) | (simp [upN_len]; omega) | (simp [idxBy_len]; omega) | (simp [marks_len]; omega) | (simp [upN_len]; done) | (simp [idxBy_len]; done) | (simp [marks_len]; done) | (simp at *; omega)), ?_⟩
                exact ⟨by omega, by omega, hi1, fun u hu => by have := hi2 u hu; omega, by rw [List.take_of_length_le (by omega)] at hi3; exact hi3.trans (filt_step l e)⟩
              · first | omega | (dsimp only; omega) | (simp only []; omega)
        · refine LJ.nil ?_
          refine CJ.condF rfl ?_
          refine CJ.exit ?_
          refine CJ.seq ?_
          have he : e = 0 := by omega
          subst he
          have hdp : d.Perm l := by rwa [List.filter_eq_self.2 (fun u hu => by have := hm u hu; simp; omega)] at hd3
          have hdm : ∀ u ∈ d, 1 ≤ u ∧ u ≤ bar := fun u hu => hm u (hdp.mem_iff.1 hu)
          have hdn := hdp.length_eq
          have hbd : barsOk 20 d bar = true := barsOk_iff.2 ⟨by omega, hdm⟩
          have hmd := ff_mx hdm (List.Perm.refl (upN d.length)) (by omega) 0 (by omega)
          rw [ffS_down hd1 hdp] at hmd
          have hfl := ffit_len d bar (upN d.length)
          refine CJ.region ?_
          refine LJ.yd rfl (Yd.mvS rfl) ?_
          refine LJ.yd rfl (Yd.mvI rfl) ?_
          refine LJ.yd rfl (Yd.mvS rfl) ?_
          refine LJ.callV rfl (fun k hk dk => GoodBars_ok (Sts.lrm hk dk 0 (by first | rfl | omega | (simp; done) | (simp; omega) | (simp [upN_len]; omega) | (simp [idxBy_len]; omega) | (simp [marks_len]; omega) | (simp [upN_len]; done) | (simp [idxBy_len]; done) | (simp [marks_len]; done) | (simp at *; omega)) (by first | rfl | omega | (simp; done) | (simp; omega) | (simp [upN_len]; omega) | (simp [idxBy_len]; omega) | (simp [marks_len]; omega) | (simp [upN_len]; done) | (simp [idxBy_len]; done) | (simp [marks_len]; done) | (simp at *; omega)) rfl) (Sts.lrm hk dk 1 (by first | rfl | omega | (simp; done) | (simp; omega) | (simp [upN_len]; omega) | (simp [idxBy_len]; omega) | (simp [marks_len]; omega) | (simp [upN_len]; done) | (simp [idxBy_len]; done) | (simp [marks_len]; done) | (simp at *; omega)) (by first | rfl | omega | (simp; done) | (simp; omega) | (simp [upN_len]; omega) | (simp [idxBy_len]; omega) | (simp [marks_len]; omega) | (simp [upN_len]; done) | (simp [idxBy_len]; done) | (simp [marks_len]; done) | (simp at *; omega)) rfl) hbo (ffit_len _ _ _) (fun x hx => by have := hor x hx; omega) hgl) ?_
          refine LJ.yd rfl (Yd.mvB rfl) ?_
          refine LJ.gT rfl ?_
          refine LJ.yd rfl (Yd.mvS rfl) ?_
          refine LJ.gT rfl ?_
          refine LJ.yd rfl (Yd.mvI rfl) ?_
          refine LJ.gT rfl ?_
          refine LJ.call0 rfl (fun k hk dk => FirstFitI_t (Sts.lrm hk dk 3 (by first | rfl | omega | (simp; done) | (simp; omega) | (simp [upN_len]; omega) | (simp [idxBy_len]; omega) | (simp [marks_len]; omega) | (simp [upN_len]; done) | (simp [idxBy_len]; done) | (simp [marks_len]; done) | (simp at *; omega)) (by first | rfl | omega | (simp; done) | (simp; omega) | (simp [upN_len]; omega) | (simp [idxBy_len]; omega) | (simp [marks_len]; omega) | (simp [upN_len]; done) | (simp [idxBy_len]; done) | (simp [marks_len]; done) | (simp at *; omega)) rfl) hbd) ?_
          rintro _ _ ⟨ra65, rc65, rfl, rfl⟩
          refine LJ.norm [_, _, _, _, _] rfl ?_
          refine LJ.gT rfl ?_
          refine LJ.callV rfl (fun k hk dk => highest_v (Sts.lrm hk dk 4 (by first | rfl | omega | (simp; done) | (simp; omega) | (simp [upN_len]; omega) | (simp [idxBy_len]; omega) | (simp [marks_len]; omega) | (simp [upN_len]; done) | (simp [idxBy_len]; done) | (simp [marks_len]; done) | (simp at *; omega)) (by first | rfl | omega | (simp; done) | (simp; omega) | (simp [upN_len]; omega) | (simp [idxBy_len]; omega) | (simp [marks_len]; omega) | (simp [upN_len]; done) | (simp [idxBy_len]; done) | (simp [marks_len]; done) | (simp at *; omega)) rfl) hmd) ?_
          refine LJ.gT rfl ?_
          refine LJ.yd rfl (Yd.mvS rfl) ?_
          refine LJ.gT rfl ?_
          refine LJ.callV rfl (fun k hk dk => highest_v (Sts.lrm hk dk 1 (by first | rfl | omega | (simp; done) | (simp; omega) | (simp [upN_len]; omega) | (simp [idxBy_len]; omega) | (simp [marks_len]; omega) | (simp [upN_len]; done) | (simp [idxBy_len]; done) | (simp [marks_len]; done) | (simp at *; omega)) (by first | rfl | omega | (simp; done) | (simp; omega) | (simp [upN_len]; omega) | (simp [idxBy_len]; omega) | (simp [marks_len]; omega) | (simp [upN_len]; done) | (simp [idxBy_len]; done) | (simp [marks_len]; done) | (simp at *; omega)) rfl) hmx) ?_
          refine LJ.gT rfl ?_
          refine LJ.yd rfl (Yd.eql rfl rfl) ?_
          refine LJ.yd rfl (Yd.pickTB rfl rfl) ?_
          refine LJ.yd rfl (Yd.asB rfl) ?_
          refine LJ.nil ?_
          refine CJ.ret ?_
          refine Fin.V (Res.one (ResV.tmp (v := .bool _) rfl)) ?_
          simp
end Go.Proofs.Ytlknglhldfpbdaa
