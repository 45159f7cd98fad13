/-
  Contracts: batches of a furnace.
-/
import Derived.Test.YtkojheinklgdeaaPN
import Derived.Test.YtkojheinklgdeaaA6
import Derived.Test.YtkojheinklgdeaaB0
namespace Go.Proofs.Ytkojheinklgdeaa
open Go
set_option maxRecDepth 20000
set_option maxHeartbeats 1000000

/-- the widths of the panes of a kind -/
def kw (L : List Pane) (d : Int) : List Int := (L.filter fun p => decide (p.Kind = d)).map Pane.W
theorem kw_take {L : List Pane} {k : Nat} {u : Pane} (h : L[k]? = some u) (d : Int) : kw (L.take (k + 1)) d = kw (L.take k) d ++ if u.Kind = d then [u.W] else [] := by
  unfold kw; rw [takeC h, List.filter_append, List.map_append]
  by_cases e : u.Kind = d <;> simp [e]
theorem kw_len (L : List Pane) (d : Int) : (kw L d).length ≤ L.length := by
  unfold kw; rw [List.length_map]; exact List.length_filter_le _ _
theorem kw_mem {L : List Pane} {d x : Int} (h : x ∈ kw L d) : ∃ p ∈ L, p.Kind = d ∧ p.W = x := by
  obtain ⟨p, hp, rfl⟩ := List.mem_map.1 h
  rw [List.mem_filter, decide_eq_true_eq] at hp
  exact ⟨p, hp.1, hp.2, rfl⟩
/-- the number of bars -/
def bnm (l : List Int) (bed : Int) : Int := (ffit l bed (idxBy (ltF l) l.length)).foldl max (-1) + 1
def sumR (f : Int → Int) : Nat → Int
  | 0 => 0
  | n + 1 => sumR f n + f n
def btG (L : List Pane) (bed : Int) : Bool := pnOk L && (decide (1 ≤ bed ∧ bed ≤ 200) && (List.range 10).all fun (d : Nat) => barsOk 20 (kw L d) bed)
def btR (L : List Pane) (bed : Int) : Int := if btG L bed = true then sumR (fun d => bnm (kw L d) bed) 10 else -1
theorem btG_iff {L : List Pane} {bed : Int} : btG L bed = true ↔ (L.length ≤ 24 ∧ ∀ p ∈ L, p.ok = true) ∧ (1 ≤ bed ∧ bed ≤ 200) ∧ ∀ d : Nat, d < 10 → barsOk 20 (kw L d) bed = true := by
  simp only [btG, Bool.and_eq_true, pnOk_iff, decide_eq_true_eq, List.all_eq_true, List.mem_range]
theorem bars_kw {L : List Pane} {bed : Int} (hp : ∀ p ∈ L, p.ok = true) (hb : 1 ≤ bed ∧ bed ≤ 200) (hw : ∀ p ∈ L, p.W ≤ bed) {d : Int} (hn : (kw L d).length ≤ 20) : barsOk 20 (kw L d) bed = true := by
  refine barsOk_iff.2 ⟨⟨hb.1, hb.2, by omega⟩, fun u hu => ?_⟩
  obtain ⟨p, hpm, _, rfl⟩ := kw_mem hu
  have := Pane.ok_iff.1 (hp p hpm)
  have := hw p hpm
  omega
theorem bnm_le {l : List Int} {bed : Int} (h : barsOk 20 l bed = true) : 0 ≤ bnm l bed ∧ bnm l bed ≤ 20 := by
  obtain ⟨⟨h1, h2, h3⟩, h4⟩ := barsOk_iff.1 h
  have hm := ffit_lt (bar := bed) h4 (idxBy_perm (ltF l) l.length)
  have hle := ffS_le l bed (idxBy (ltF l) l.length)
  rw [idxBy_len] at hle
  have h5 := mx_from (ffit l bed (idxBy (ltF l) l.length)) (-1)
  have h6 := mx_le (o := ffit l bed (idxBy (ltF l) l.length)) (a := -1) (B := 19) (by omega) (fun x hx => by have := hm x hx; omega)
  unfold bnm; omega
theorem sumR_le {f : Int → Int} : ∀ {n : Nat}, (∀ d : Nat, d < n → 0 ≤ f d ∧ f d ≤ 20) → 0 ≤ sumR f n ∧ sumR f n ≤ 20 * n
  | 0, _ => by simp [sumR]
  | n + 1, h => by
    have h1 := sumR_le (n := n) fun d hd => h d (by omega)
    have h2 := h n (by omega)
    simp only [sumR]; omega
theorem FirstFitDownI_k {A : Amb} {v : Value} {l : List Int} {bar : Int} (hl : RdL encI 1 A.h v l) (hb : barsOk 20 l bar = true) : Ctr Try.prog 23 #[v, vI bar] A [] (RLP encI 3 1 (ffit l bar (idxBy (ltF l) l.length))) := by
  have := FirstFitDownI_ok (bar := bar) hl
  rwa [if_pos hb] at this
abbrev eR (u : Rw Int) : Value := .slice u.a u.l.length u.c
theorem BatchesForI_ok {A : Amb} {v : Value} {L : List Pane} {bed : Int} (hl : RdL Pane.enc 4 A.h v L) : Ctr Try.prog 13 #[v, vI bed] A [] (Val (vI (btR L bed))) := by
  obtain ⟨la, lc, rfl, hlb, hl⟩ := hl.un
  refine Ctr.body (args := [_, _]) Try.func13 rfl Try.ntmps13 Try.results13 (by simp) ?_
  refine CJ.seq ?_
  refine CJ.region ?_
  refine LJ.yd rfl (Yd.asI rfl) ?_
  refine LJ.nil ?_
  refine CJ.seq ?_
  refine CJ.seq ?_
  refine CJ.region ?_
  refine LJ.yd rfl (Yd.mvS rfl) ?_
  refine LJ.yd rfl (Yd.len rfl) ?_
  refine LJ.splitD rfl (Yd.gtr rfl rfl) (fun h16 => ?_) (fun h16 => ?_)
  · refine LJ.yd rfl (Yd.mvB rfl) ?_
    refine LJ.gF rfl rfl ?_
    refine LJ.gF rfl rfl ?_
    refine LJ.yd rfl (Yd.pickTB rfl rfl) ?_
    refine LJ.yd rfl (Yd.mvB rfl) ?_
    refine LJ.gF rfl rfl ?_
    refine LJ.gF rfl rfl ?_
    refine LJ.yd rfl (Yd.pickTB rfl rfl) ?_
    refine LJ.nil ?_
    refine CJ.condT rfl ?_
    refine CJ.seq ?_
    refine CJ.region ?_
    refine LJ.yd rfl (Yd.asI rfl) ?_
    refine LJ.nil ?_
    refine CJ.ret ?_
    refine Fin.V (Res.one (ResV.tmp (v := .int _ _) rfl)) ?_
    first
      | (rw [btR, if_neg]; intro h; obtain ⟨⟨h1, _⟩, h2, _⟩ := btG_iff.1 h; omega)
      | (rw [btR, if_neg]; intro h; have := (btG_iff.1 h).1.2 u30 (List.mem_of_getElem? hu30); rw [h32] at this; cases this; done)
      | (rw [btR, if_neg]
         intro h
         obtain ⟨⟨_, h1⟩, _, h2⟩ := btG_iff.1 h
         obtain ⟨_, _, _, _, _, _⟩ := Pane.ok_iff.1 h32
         have h3 := h2 u30.Kind.toNat (by omega)
         have := (barsOk_iff.1 h3).2 u30.W (List.mem_map_of_mem (List.mem_filter.2 ⟨List.mem_of_getElem? hu30, decide_eq_true (by omega)⟩))
         omega)
      | (rw [btR, if_neg]; intro h; have := (barsOk_iff.1 ((btG_iff.1 h).2.2 j (by omega))).1.2.2; rw [← hl55] at this; omega)
      | (rw [btR, if_pos (btG_iff.2 ⟨⟨by omega, fun p hp => (hpk p hp).1⟩, by omega, fun d hd => hkk d (by omega)⟩), hbt, show j = 10 by omega])
  · refine LJ.yd rfl (Yd.mvB rfl) ?_
    refine LJ.gT rfl ?_
    refine LJ.yd rfl (Yd.mvI rfl) ?_
    refine LJ.gT rfl ?_
    refine LJ.splitD rfl (Yd.lss rfl rfl) (fun h19 => ?_) (fun h19 => ?_)
    · refine LJ.yd rfl (Yd.pickFB rfl rfl) ?_
      refine LJ.yd rfl (Yd.mvB rfl) ?_
      refine LJ.gF rfl rfl ?_
      refine LJ.gF rfl rfl ?_
      refine LJ.yd rfl (Yd.pickTB rfl rfl) ?_
      refine LJ.nil ?_
      refine CJ.condT rfl ?_
      refine CJ.seq ?_
      refine CJ.region ?_
      refine LJ.yd rfl (Yd.asI rfl) ?_
      refine LJ.nil ?_
      refine CJ.ret ?_
      refine Fin.V (Res.one (ResV.tmp (v := .int _ _) rfl)) ?_
      first
        | (rw [btR, if_neg]; intro h; obtain ⟨⟨h1, _⟩, h2, _⟩ := btG_iff.1 h; omega)
        | (rw [btR, if_neg]; intro h; have := (btG_iff.1 h).1.2 u30 (List.mem_of_getElem? hu30); rw [h32] at this; cases this; done)
        | (rw [btR, if_neg]
           intro h
           obtain ⟨⟨_, h1⟩, _, h2⟩ := btG_iff.1 h
           obtain ⟨_, _, _, _, _, _⟩ := Pane.ok_iff.1 h32
           have h3 := h2 u30.Kind.toNat (by omega)
           have := (barsOk_iff.1 h3).2 u30.W (List.mem_map_of_mem (List.mem_filter.2 ⟨List.mem_of_getElem? hu30, decide_eq_true (by omega)⟩))
           omega)
        | (rw [btR, if_neg]; intro h; have := (barsOk_iff.1 ((btG_iff.1 h).2.2 j (by omega))).1.2.2; rw [← hl55] at this; omega)
        | (rw [btR, if_pos (btG_iff.2 ⟨⟨by omega, fun p hp => (hpk p hp).1⟩, by omega, fun d hd => hkk d (by omega)⟩), hbt, show j = 10 by omega])
    · refine LJ.yd rfl (Yd.pickFB rfl rfl) ?_
      refine LJ.yd rfl (Yd.mvB rfl) ?_
      refine LJ.gT rfl ?_
      refine LJ.yd rfl (Yd.mvI rfl) ?_
      refine LJ.gT rfl ?_
      refine LJ.splitD rfl (Yd.gtr rfl rfl) (fun h23 => ?_) (fun h23 => ?_)
      · refine LJ.yd rfl (Yd.pickFB rfl rfl) ?_
        refine LJ.nil ?_
        refine CJ.condT rfl ?_
        refine CJ.seq ?_
        refine CJ.region ?_
        refine LJ.yd rfl (Yd.asI rfl) ?_
        refine LJ.nil ?_
        refine CJ.ret ?_
        refine Fin.V (Res.one (ResV.tmp (v := .int _ _) rfl)) ?_
        first
          | (rw [btR, if_neg]; intro h; obtain ⟨⟨h1, _⟩, h2, _⟩ := btG_iff.1 h; omega)
          | (rw [btR, if_neg]; intro h; have := (btG_iff.1 h).1.2 u30 (List.mem_of_getElem? hu30); rw [h32] at this; cases this; done)
          | (rw [btR, if_neg]
             intro h
             obtain ⟨⟨_, h1⟩, _, h2⟩ := btG_iff.1 h
             obtain ⟨_, _, _, _, _, _⟩ := Pane.ok_iff.1 h32
             have h3 := h2 u30.Kind.toNat (by omega)
             have := (barsOk_iff.1 h3).2 u30.W (List.mem_map_of_mem (List.mem_filter.2 ⟨List.mem_of_getElem? hu30, decide_eq_true (by omega)⟩))
             omega)
          | (rw [btR, if_neg]; intro h; have := (barsOk_iff.1 ((btG_iff.1 h).2.2 j (by omega))).1.2.2; rw [← hl55] at this; omega)
          | (rw [btR, if_pos (btG_iff.2 ⟨⟨by omega, fun p hp => (hpk p hp).1⟩, by omega, fun d hd => hkk d (by omega)⟩), hbt, show j = 10 by omega])
      · refine LJ.yd rfl (Yd.pickFB rfl rfl) ?_
        refine LJ.nil ?_
        refine CJ.condF rfl ?_
        refine CJ.skip ?_
        refine CJ.seq ?_
        refine CJ.region ?_
        refine LJ.alloc ((List.replicate 10 (⟨none, 0, []⟩ : Rw Int)).map fun u => .slice u.a u.l.length u.c) rfl rfl (fun b1 => ?_)
        refine LJ.norm [_] rfl ?_
        refine LJ.ent (INN.repEnt (rowOf encI 3 1) 10 (⟨none, 0, []⟩ : Rw Int) (fun _ => ⟨by simp, .inl ⟨rfl, rfl, rfl⟩⟩)) ?_
        refine LJ.norm [_, _] rfl ?_
        refine LJ.nil ?_
        refine CJ.seq ?_
        refine CJ.seq ?_
        refine CJ.region ?_
        refine LJ.yd rfl (Yd.mvS rfl) ?_
        refine LJ.yd rfl (Yd.len rfl) ?_
        refine LJ.yd rfl (Yd.mvI rfl) ?_
        refine LJ.nil ?_
        refine CJ.block ?_
        refine CJ.loopF [1, 5, 25, 26] (Nat × List (Rw Int)) (fun ⟨k, X⟩ => k ≤ L.length ∧ X.length = 10 ∧ (∀ (d : Nat) (u : Rw Int), X[d]? = some u → u.l = kw (L.take k) d) ∧ ∀ p ∈ L.take k, p.ok = true ∧ p.W ≤ bed) (fun ⟨k, X⟩ => [(27, vI k)]) (fun ⟨k, X⟩ => [Cel b1 61 (X.map fun u => .slice u.a u.l.length u.c), INN (rowOf encI 3 1) X]) (fun ⟨k, X⟩ => L.length - k) (0, List.replicate 10 ⟨none, 0, []⟩) [] [] [0, 1] rfl rfl rfl ?_ ⟨rfl, trivial⟩ ?_
        · exact ⟨by omega, by simp, fun d u hd => by rw [(List.mem_replicate.1 (List.mem_of_getElem? hd)).2]; rfl, by simp⟩
        · rintro ⟨k, X⟩ σ ⟨hk1, hXl, hX, hpk⟩
          refine CJ.norm [_, _] rfl ?_
          refine CJ.seq ?_
          refine CJ.region ?_
          refine LJ.splitD rfl (Yd.lss rfl rfl) (fun h28 => ?_) (fun h28 => ?_)
          · refine LJ.nil ?_
            refine CJ.seq ?_
            refine CJ.condT rfl ?_
            refine CJ.skip ?_
            refine CJ.seq ?_
            refine CJ.block ?_
            refine CJ.seq ?_
            refine CJ.region ?_
            refine LJ.idxA rfl hl rfl rfl (by omega) (by first | rfl | omega | (simp; done) | (simp; omega) | (simp [upN_len]; omega) | (simp [idxBy_len]; omega) | (simp [marks_len]; omega) | (simp [upN_len]; done) | (simp [idxBy_len]; done) | (simp [marks_len]; done) | (simp at *; omega)) (fun ib29 io29 ia29 ir29 => ?_)
            refine LJ.lgA (enc := Pane.enc) (fun u => [vI u.W, vI u.H, .bool u.Turns, vI u.Kind]) (fun _ => rfl) (fun _ => rfl) ir29 rfl rfl rfl (by first | rfl | omega | (simp; done) | (simp; omega) | (simp [upN_len]; omega) | (simp [idxBy_len]; omega) | (simp [marks_len]; omega) | (simp [upN_len]; done) | (simp [idxBy_len]; done) | (simp [marks_len]; done) | (simp at *; omega)) (fun u30 hu30 => ?_)
            try simp only [Int.toNat_natCast] at hu30
            refine LJ.alloc ([_, _, _, _] : List Value) rfl rfl (fun b3 => ?_)
            refine LJ.store (v := .agg #[_, _, _, _]) (us := [_, _, _, _]) 2 rfl rfl rfl rfl rfl rfl rfl rfl ?_
            refine LJ.nil ?_
            refine CJ.seq ?_
            refine CJ.seq ?_
            refine CJ.region ?_
            refine LJ.yd rfl (Yd.loadG (us := [_, _, _, _]) 2 rfl rfl rfl rfl) ?_
            refine LJ.callB rfl (fun k hk dk => validPaneI_ok _ u30) (fun h32 => ?_) (fun h32 => ?_)
            · refine LJ.yd rfl (Yd.not rfl) ?_
              refine LJ.yd rfl (Yd.mvB rfl) ?_
              refine LJ.gT rfl ?_
              refine LJ.yd rfl (Yd.fieldAddr rfl) ?_
              refine LJ.gT rfl ?_
              refine LJ.yd rfl (Yd.loadC 2 rfl rfl rfl) ?_
              refine LJ.gT rfl ?_
              refine LJ.yd rfl (Yd.mvI rfl) ?_
              refine LJ.gT rfl ?_
              refine LJ.splitD rfl (Yd.gtr rfl rfl) (fun h38 => ?_) (fun h38 => ?_)
              · refine LJ.yd rfl (Yd.pickFB rfl rfl) ?_
                refine LJ.nil ?_
                refine CJ.condT rfl ?_
                refine CJ.seq ?_
                refine CJ.region ?_
                refine LJ.yd rfl (Yd.asI rfl) ?_
                refine LJ.nil ?_
                refine CJ.ret ?_
                refine Fin.V (Res.one (ResV.tmp (v := .int _ _) rfl)) ?_
                first
                  | (rw [btR, if_neg]; intro h; obtain ⟨⟨h1, _⟩, h2, _⟩ := btG_iff.1 h; omega)
                  | (rw [btR, if_neg]; intro h; have := (btG_iff.1 h).1.2 u30 (List.mem_of_getElem? hu30); rw [h32] at this; cases this; done)
                  | (rw [btR, if_neg]
                     intro h
                     obtain ⟨⟨_, h1⟩, _, h2⟩ := btG_iff.1 h
                     obtain ⟨_, _, _, _, _, _⟩ := Pane.ok_iff.1 h32
                     have h3 := h2 u30.Kind.toNat (by omega)
                     have := (barsOk_iff.1 h3).2 u30.W (List.mem_map_of_mem (List.mem_filter.2 ⟨List.mem_of_getElem? hu30, decide_eq_true (by omega)⟩))
                     omega)
                  | (rw [btR, if_neg]; intro h; have := (barsOk_iff.1 ((btG_iff.1 h).2.2 j (by omega))).1.2.2; rw [← hl55] at this; omega)
                  | (rw [btR, if_pos (btG_iff.2 ⟨⟨by omega, fun p hp => (hpk p hp).1⟩, by omega, fun d hd => hkk d (by omega)⟩), hbt, show j = 10 by omega])
              · refine LJ.yd rfl (Yd.pickFB rfl rfl) ?_
                refine LJ.nil ?_
                refine CJ.condF rfl ?_
                refine CJ.skip ?_
                obtain ⟨hq1, hq2, hq3, hq4, hq5, hq6⟩ := Pane.ok_iff.1 h32
                refine CJ.regionD [2] [0, 1] (by kernel_rfl) rfl ?_
                refine DJ.norm [_] [_, _] rfl rfl ?_
                refine DJ.yd 0 rfl (by kernel_rfl) (by kernel_rfl) (by kernel_rfl) rfl rfl (Yd.fieldAddr rfl) ?_
                refine DJ.yd 1 rfl (by kernel_rfl) (by kernel_rfl) (by kernel_rfl) rfl rfl (Yd.loadC 0 rfl rfl rfl) ?_
                refine DJ.yd 2 rfl (by kernel_rfl) (by kernel_rfl) (by kernel_rfl) rfl rfl (Yd.fieldAddr rfl) ?_
                refine DJ.yd 3 rfl (by kernel_rfl) (by kernel_rfl) (by kernel_rfl) rfl rfl (Yd.loadC 0 rfl rfl rfl) ?_
                refine DJ.yd 4 rfl (by kernel_rfl) (by kernel_rfl) (by kernel_rfl) rfl rfl (Yd.idxArr rfl rfl (by omega) (by omega)) ?_
                refine DJ.yd 6 rfl (by kernel_rfl) (by kernel_rfl) (by kernel_rfl) rfl rfl (Yd.fieldAddr rfl) ?_
                refine DJ.yd 7 rfl (by kernel_rfl) (by kernel_rfl) (by kernel_rfl) rfl rfl (Yd.loadC 0 rfl rfl rfl) ?_
                refine DJ.two (i := 5) (j := 8) (by kernel_rfl) ?_ ?_
                · refine DO.ldM (e1 := fun (u : Rw Int) => .slice u.a u.l.length u.c) rfl rfl rfl 0 rfl rfl rfl (by first | rfl | omega | (simp; done) | (simp; omega) | (simp [upN_len]; omega) | (simp [idxBy_len]; omega) | (simp [marks_len]; omega) | (simp [upN_len]; done) | (simp [idxBy_len]; done) | (simp [marks_len]; done) | (simp at *; omega)) (fun u45 hu45 => ?_)
                  try simp only [Int.toNat_natCast] at hu45
                  refine DJ.ent (fun _ => Ent.pickSts [0] [1] rfl (fun _ s => INN.open hu45 s)) ?_
                  refine DJ.norm [_] [_, _, _] rfl rfl ?_
                  have hl45 : u45.l.length ≤ 24 := by rw [hX _ _ hu45]; exact Nat.le_trans (kw_len _ _) (by simp; omega)
                  refine DJ.one (i := 8) (by kernel_rfl) ?_
                  refine DO.op rfl rfl rfl (fun k0 hk0 dk0 => OpR.buildSlice (cs := [_]) rfl rfl) ?_
                  rintro _ _ ⟨b4, rfl, rfl⟩
                  refine DJ.one (i := 9) (by kernel_rfl) ?_
                  refine DO.op rfl rfl rfl (fun k0 hk0 dk0 => OpR.apT (enc := encI) [_] 1 3 rfl rfl rfl (by first | rfl | omega | (simp; done) | (simp; omega) | (simp [upN_len]; omega) | (simp [idxBy_len]; omega) | (simp [marks_len]; omega) | (simp [upN_len]; done) | (simp [idxBy_len]; done) | (simp [marks_len]; done) | (simp at *; omega)) rfl rfl rfl rfl rfl (by first | rfl | omega | (simp; done) | (simp; omega) | (simp [upN_len]; omega) | (simp [idxBy_len]; omega) | (simp [marks_len]; omega) | (simp [upN_len]; done) | (simp [idxBy_len]; done) | (simp [marks_len]; done) | (simp at *; omega))) ?_
                  rintro _ _ ⟨ra49, rc49, rfl, rfl⟩
                  refine DJ.norm [_] [_, _, _, _] rfl rfl ?_
                  refine DJ.yd 10 rfl (by kernel_rfl) (by kernel_rfl) (by kernel_rfl) rfl rfl (Yd.idxArr rfl rfl (by omega) (by omega)) ?_
                  refine DJ.one (i := 11) (by kernel_rfl) ?_
                  refine DO.op rfl rfl rfl (fun k0 hk0 dk0 => OpR.stM (u' := (⟨ra49, rc49, u45.l ++ [u30.W]⟩ : Rw Int)) (e1 := fun (u : Rw Int) => .slice u.a u.l.length u.c) 0 (fun _ => rfl) (fun _ => rfl) rfl rfl rfl rfl (by first | rfl | omega | (simp; done) | (simp; omega) | (simp [upN_len]; omega) | (simp [idxBy_len]; omega) | (simp [marks_len]; omega) | (simp [upN_len]; done) | (simp [idxBy_len]; done) | (simp [marks_len]; done) | (simp at *; omega))) ?_
                  rintro _ _ ⟨rfl, rfl⟩
                  refine DJ.norm [_] [_, _, _, _] rfl rfl ?_
                  refine DJ.done (by kernel_rfl) ?_
                  refine CJ.ent (Ent.pickFold [0, 1, 4] [2, 3] [] rfl (fun _ s => INN.close (f := rowOf encI 3 1) (xs := X) (j := u30.Kind.toNat) (v := (⟨ra49, rc49, u45.l ++ [u30.W]⟩ : Rw Int)) (by omega) s)) ?_
                  refine CJ.norm [_, _, _, _] rfl ?_
                  refine CJ.region ?_
                  refine LJ.yd rfl (Yd.add rfl rfl (by unfold I64; omega)) ?_
                  refine LJ.yd rfl (Yd.mvI rfl) ?_
                  refine LJ.nil ?_
                  refine ⟨(k + 1, _), ?_, ⟨rfl, rfl, rfl, rfl, trivial⟩, ⟨rfl, trivial⟩, Ent.pick [1, 3] [0, 2] rfl, ?_⟩
                  · refine ⟨by omega, ?_⟩
                    refine ⟨by simp [hXl], fun d u hd => ?_, fun p hp => ?_⟩
                    · rw [kw_take hu30]
                      by_cases e : d = u30.Kind.toNat
                      · subst e
                        rw [List.getElem?_set_self (by omega)] at hd
                        cases hd
                        rw [if_pos (by omega), ← hX _ _ hu45]
                      · rw [List.getElem?_set_ne (fun h => e h.symm)] at hd
                        rw [if_neg (by omega), List.append_nil]
                        exact hX d u hd
                    · rw [takeC hu30, List.mem_append, List.mem_singleton] at hp
                      rcases hp with hp | rfl
                      · exact hpk p hp
                      · exact ⟨h32, by omega⟩
                  · first | omega | (dsimp only; omega) | (simp only []; omega)
                · refine DO.op rfl rfl rfl (fun k0 hk0 dk0 => OpR.buildSlice (cs := [_]) rfl rfl) ?_
                  rintro _ _ ⟨b5, rfl, rfl⟩
                  refine DJ.one (i := 5) (by kernel_rfl) ?_
                  refine DO.ldM (e1 := fun (u : Rw Int) => .slice u.a u.l.length u.c) rfl rfl rfl 0 rfl rfl rfl (by first | rfl | omega | (simp; done) | (simp; omega) | (simp [upN_len]; omega) | (simp [idxBy_len]; omega) | (simp [marks_len]; omega) | (simp [upN_len]; done) | (simp [idxBy_len]; done) | (simp [marks_len]; done) | (simp at *; omega)) (fun u45 hu45 => ?_)
                  try simp only [Int.toNat_natCast] at hu45
                  refine DJ.ent (fun _ => Ent.pickSts [0, 2] [1] rfl (fun _ s => INN.open hu45 s)) ?_
                  refine DJ.norm [_] [_, _, _, _] rfl rfl ?_
                  have hl45 : u45.l.length ≤ 24 := by rw [hX _ _ hu45]; exact Nat.le_trans (kw_len _ _) (by simp; omega)
                  refine DJ.one (i := 9) (by kernel_rfl) ?_
                  refine DO.op rfl rfl rfl (fun k0 hk0 dk0 => OpR.apT (enc := encI) [_] 2 1 rfl rfl rfl (by first | rfl | omega | (simp; done) | (simp; omega) | (simp [upN_len]; omega) | (simp [idxBy_len]; omega) | (simp [marks_len]; omega) | (simp [upN_len]; done) | (simp [idxBy_len]; done) | (simp [marks_len]; done) | (simp at *; omega)) rfl rfl rfl rfl rfl (by first | rfl | omega | (simp; done) | (simp; omega) | (simp [upN_len]; omega) | (simp [idxBy_len]; omega) | (simp [marks_len]; omega) | (simp [upN_len]; done) | (simp [idxBy_len]; done) | (simp [marks_len]; done) | (simp at *; omega))) ?_
                  rintro _ _ ⟨ra49, rc49, rfl, rfl⟩
                  refine DJ.norm [_] [_, _, _, _] rfl rfl ?_
                  refine DJ.yd 10 rfl (by kernel_rfl) (by kernel_rfl) (by kernel_rfl) rfl rfl (Yd.idxArr rfl rfl (by omega) (by omega)) ?_
                  refine DJ.one (i := 11) (by kernel_rfl) ?_
                  refine DO.op rfl rfl rfl (fun k0 hk0 dk0 => OpR.stM (u' := (⟨ra49, rc49, u45.l ++ [u30.W]⟩ : Rw Int)) (e1 := fun (u : Rw Int) => .slice u.a u.l.length u.c) 0 (fun _ => rfl) (fun _ => rfl) rfl rfl rfl rfl (by first | rfl | omega | (simp; done) | (simp; omega) | (simp [upN_len]; omega) | (simp [idxBy_len]; omega) | (simp [marks_len]; omega) | (simp [upN_len]; done) | (simp [idxBy_len]; done) | (simp [marks_len]; done) | (simp at *; omega))) ?_
                  rintro _ _ ⟨rfl, rfl⟩
                  refine DJ.norm [_] [_, _, _, _] rfl rfl ?_
                  refine DJ.done (by kernel_rfl) ?_
                  refine CJ.ent (Ent.pickFold [0, 1, 2] [3, 4] [] rfl (fun _ s => INN.close (f := rowOf encI 3 1) (xs := X) (j := u30.Kind.toNat) (v := (⟨ra49, rc49, u45.l ++ [u30.W]⟩ : Rw Int)) (by omega) s)) ?_
                  refine CJ.norm [_, _, _, _] rfl ?_
                  refine CJ.region ?_
                  refine LJ.yd rfl (Yd.add rfl rfl (by unfold I64; omega)) ?_
                  refine LJ.yd rfl (Yd.mvI rfl) ?_
                  refine LJ.nil ?_
                  refine ⟨(k + 1, _), ?_, ⟨rfl, rfl, rfl, rfl, trivial⟩, ⟨rfl, trivial⟩, Ent.pick [1, 3] [0, 2] rfl, ?_⟩
                  · refine ⟨by omega, ?_⟩
                    refine ⟨by simp [hXl], fun d u hd => ?_, fun p hp => ?_⟩
                    · rw [kw_take hu30]
                      by_cases e : d = u30.Kind.toNat
                      · subst e
                        rw [List.getElem?_set_self (by omega)] at hd
                        cases hd
                        rw [if_pos (by omega), ← hX _ _ hu45]
                      · rw [List.getElem?_set_ne (fun h => e h.symm)] at hd
                        rw [if_neg (by omega), List.append_nil]
                        exact hX d u hd
                    · rw [takeC hu30, List.mem_append, List.mem_singleton] at hp
                      rcases hp with hp | rfl
                      · exact hpk p hp
                      · exact ⟨h32, by omega⟩
                  · first | omega | (dsimp only; omega) | (simp only []; omega)
            · refine LJ.yd rfl (Yd.not rfl) ?_
              refine LJ.yd rfl (Yd.mvB rfl) ?_
              refine LJ.gF rfl rfl ?_
              refine LJ.gF rfl rfl ?_
              refine LJ.gF rfl rfl ?_
              refine LJ.gF rfl rfl ?_
              refine LJ.yd rfl (Yd.pickTB rfl rfl) ?_
              refine LJ.nil ?_
              refine CJ.condT rfl ?_
              refine CJ.seq ?_
              refine CJ.region ?_
              refine LJ.yd rfl (Yd.asI rfl) ?_
              refine LJ.nil ?_
              refine CJ.ret ?_
              refine Fin.V (Res.one (ResV.tmp (v := .int _ _) rfl)) ?_
              first
                | (rw [btR, if_neg]; intro h; obtain ⟨⟨h1, _⟩, h2, _⟩ := btG_iff.1 h; omega)
                | (rw [btR, if_neg]; intro h; have := (btG_iff.1 h).1.2 u30 (List.mem_of_getElem? hu30); rw [h32] at this; cases this; done)
                | (rw [btR, if_neg]
                   intro h
                   obtain ⟨⟨_, h1⟩, _, h2⟩ := btG_iff.1 h
                   obtain ⟨_, _, _, _, _, _⟩ := Pane.ok_iff.1 h32
                   have h3 := h2 u30.Kind.toNat (by omega)
                   have := (barsOk_iff.1 h3).2 u30.W (List.mem_map_of_mem (List.mem_filter.2 ⟨List.mem_of_getElem? hu30, decide_eq_true (by omega)⟩))
                   omega)
                | (rw [btR, if_neg]; intro h; have := (barsOk_iff.1 ((btG_iff.1 h).2.2 j (by omega))).1.2.2; rw [← hl55] at this; omega)
                | (rw [btR, if_pos (btG_iff.2 ⟨⟨by omega, fun p hp => (hpk p hp).1⟩, by omega, fun d hd => hkk d (by omega)⟩), hbt, show j = 10 by omega])
          · refine LJ.nil ?_
            refine CJ.seq ?_
            refine CJ.condF rfl ?_
            refine CJ.exit ?_
            refine CJ.seq ?_
            simp only [List.take_of_length_le (show L.length ≤ k by omega)] at hX hpk
            refine CJ.region ?_
            refine LJ.yd rfl (Yd.asI rfl) ?_
            refine LJ.nil ?_
            refine CJ.seq ?_
            refine CJ.seq ?_
            refine CJ.region ?_
            refine LJ.yd rfl (Yd.lgM (e1 := fun (u : Rw Int) => .slice u.a u.l.length u.c) 0 rfl rfl (by first | rfl | omega | (simp; done) | (simp; omega) | (simp [upN_len]; omega) | (simp [idxBy_len]; omega) | (simp [marks_len]; omega) | (simp [upN_len]; done) | (simp [idxBy_len]; done) | (simp [marks_len]; done) | (simp at *; omega))) ?_
            refine LJ.yd rfl (Yd.mvI rfl) ?_
            refine LJ.nil ?_
            refine CJ.block ?_
            refine CJ.loopK [1, 52] (Nat × Int) (fun ⟨j, bt⟩ => j ≤ 10 ∧ bt = sumR (fun d => bnm (kw L d) bed) j ∧ ∀ d : Nat, d < j → barsOk 20 (kw L d) bed = true) (fun ⟨j, bt⟩ => [(53, vI j), (8, vI bt)]) (fun ⟨j, bt⟩ => 10 - j) (0, 0) ?_ ⟨rfl, rfl, trivial⟩ ?_
            · exact ⟨by omega, rfl, fun d hd => by omega⟩
            · rintro ⟨j, bt⟩ σ ⟨hj1, hbt, hkk⟩
              have hbs := sumR_le (n := j) (f := fun d => bnm (kw L d) bed) (fun d hd => bnm_le (hkk d hd))
              rw [← hbt] at hbs
              refine CJ.seq ?_
              refine CJ.region ?_
              refine LJ.splitD rfl (Yd.lss rfl rfl) (fun h54 => ?_) (fun h54 => ?_)
              · refine LJ.nil ?_
                refine CJ.seq ?_
                refine CJ.condT rfl ?_
                refine CJ.skip ?_
                refine CJ.seq ?_
                refine CJ.block ?_
                refine CJ.seq ?_
                refine CJ.region ?_
                refine LJ.ixV (e1 := fun (u : Rw Int) => .slice u.a u.l.length u.c) rfl rfl rfl (by omega) (by omega) (by first | rfl | omega | (simp; done) | (simp; omega) | (simp [upN_len]; omega) | (simp [idxBy_len]; omega) | (simp [marks_len]; omega) | (simp [upN_len]; done) | (simp [idxBy_len]; done) | (simp [marks_len]; done) | (simp at *; omega)) (fun u55 hu55 => ?_)
                try simp only [Int.toNat_natCast] at hu55
                have hl55 := hX j u55 hu55
                have hn55 : u55.l.length ≤ 24 := by rw [hl55]; exact Nat.le_trans (kw_len _ _) (by omega)
                refine LJ.yd rfl (Yd.asS rfl) ?_
                refine LJ.nil ?_
                refine CJ.seq ?_
                refine CJ.seq ?_
                refine CJ.region ?_
                refine LJ.yd rfl (Yd.mvS rfl) ?_
                refine LJ.yd rfl (Yd.len rfl) ?_
                refine LJ.splitD rfl (Yd.gtr rfl rfl) (fun h58 => ?_) (fun h58 => ?_)
                · refine LJ.nil ?_
                  refine CJ.condT rfl ?_
                  refine CJ.seq ?_
                  refine CJ.region ?_
                  refine LJ.yd rfl (Yd.asI rfl) ?_
                  refine LJ.nil ?_
                  refine CJ.ret ?_
                  refine Fin.V (Res.one (ResV.tmp (v := .int _ _) rfl)) ?_
                  first
                    | (rw [btR, if_neg]; intro h; obtain ⟨⟨h1, _⟩, h2, _⟩ := btG_iff.1 h; omega)
                    | (rw [btR, if_neg]; intro h; have := (btG_iff.1 h).1.2 u30 (List.mem_of_getElem? hu30); rw [h32] at this; cases this; done)
                    | (rw [btR, if_neg]
                       intro h
                       obtain ⟨⟨_, h1⟩, _, h2⟩ := btG_iff.1 h
                       obtain ⟨_, _, _, _, _, _⟩ := Pane.ok_iff.1 h32
                       have h3 := h2 u30.Kind.toNat (by omega)
                       have := (barsOk_iff.1 h3).2 u30.W (List.mem_map_of_mem (List.mem_filter.2 ⟨List.mem_of_getElem? hu30, decide_eq_true (by omega)⟩))
                       omega)
                    | (rw [btR, if_neg]; intro h; have := (barsOk_iff.1 ((btG_iff.1 h).2.2 j (by omega))).1.2.2; rw [← hl55] at this; omega)
                    | (rw [btR, if_pos (btG_iff.2 ⟨⟨by omega, fun p hp => (hpk p hp).1⟩, by omega, fun d hd => hkk d (by omega)⟩), hbt, show j = 10 by omega])
                · refine LJ.nil ?_
                  refine CJ.condF rfl ?_
                  refine CJ.skip ?_
                  refine CJ.seq ?_
                  have hfl55 := ffit_len u55.l bed (idxBy (ltF u55.l) u55.l.length)
                  have hbk : barsOk 20 u55.l bed = true := by rw [hl55]; exact bars_kw (fun p hp => (hpk p hp).1) (by omega) (fun p hp => (hpk p hp).2) (by rw [← hl55]; omega)
                  refine CJ.region ?_
                  refine LJ.yd rfl (Yd.asI rfl) ?_
                  refine LJ.nil ?_
                  refine CJ.seq ?_
                  refine CJ.seq ?_
                  refine CJ.region ?_
                  refine LJ.yd rfl (Yd.mvS rfl) ?_
                  refine LJ.yd rfl (Yd.mvI rfl) ?_
                  refine LJ.call0 rfl (fun k hk dk => FirstFitDownI_k (Sts.inn hk dk 1 hu55 (by first | omega | (rw [ffit_len]; omega)) rfl) hbk) ?_
                  rintro _ _ ⟨ra61, rc61, rfl, rfl⟩
                  refine LJ.norm [_, _, _] rfl ?_
                  refine LJ.yd rfl (Yd.len rfl) ?_
                  refine LJ.yd rfl (Yd.mvI rfl) ?_
                  refine LJ.nil ?_
                  refine CJ.block ?_
                  refine CJ.loopK [1, 8, 10, 52, 53, 54, 55, 56, 57, 58, 59, 60, 61, 62] (Nat × Int) (fun ⟨k3, gr⟩ => k3 ≤ (ffit u55.l bed (idxBy (ltF u55.l) u55.l.length)).length ∧ gr = ((ffit u55.l bed (idxBy (ltF u55.l) u55.l.length)).take k3).foldl max (-1)) (fun ⟨k3, gr⟩ => [(63, vI k3), (11, vI gr)]) (fun ⟨k3, gr⟩ => (ffit u55.l bed (idxBy (ltF u55.l) u55.l.length)).length - k3) (0, -1) ?_ ⟨rfl, rfl, trivial⟩ ?_
                  · exact ⟨by omega, rfl⟩
                  · rintro ⟨k3, gr⟩ σ ⟨hk3, hgr⟩
                    refine CJ.seq ?_
                    refine CJ.region ?_
                    refine LJ.splitD rfl (Yd.lss rfl rfl) (fun h64 => ?_) (fun h64 => ?_)
                    · refine LJ.nil ?_
                      refine CJ.seq ?_
                      refine CJ.condT rfl ?_
                      refine CJ.skip ?_
                      refine CJ.seq ?_
                      refine CJ.block ?_
                      refine CJ.seq ?_
                      refine CJ.region ?_
                      refine LJ.idxR 2 rfl rfl rfl rfl (by omega) (by first | rfl | omega | (simp; done) | (simp; omega) | (simp [upN_len]; omega) | (simp [idxBy_len]; omega) | (simp [marks_len]; omega) | (simp [upN_len]; done) | (simp [idxBy_len]; done) | (simp [marks_len]; done) | (simp at *; omega)) (by first | rfl | omega | (simp; done) | (simp; omega) | (simp [upN_len]; omega) | (simp [idxBy_len]; omega) | (simp [marks_len]; omega) | (simp [upN_len]; done) | (simp [idxBy_len]; done) | (simp [marks_len]; done) | (simp at *; omega)) (fun ib65 ia65 => ?_)
                      refine LJ.ldR 2 0 (fun u => vI u) (fun _ => rfl) rfl ia65 rfl rfl rfl (by first | rfl | omega | (simp; done) | (simp; omega) | (simp [upN_len]; omega) | (simp [idxBy_len]; omega) | (simp [marks_len]; omega) | (simp [upN_len]; done) | (simp [idxBy_len]; done) | (simp [marks_len]; done) | (simp at *; omega)) (fun u66 hu66 => ?_)
                      try simp only [Int.toNat_natCast] at hu66
                      refine LJ.yd rfl (Yd.asI rfl) ?_
                      refine LJ.nil ?_
                      refine CJ.region ?_
                      refine LJ.yd rfl (Yd.mvI rfl) ?_
                      refine LJ.yd rfl (Yd.mvI rfl) ?_
                      refine LJ.yd rfl (Yd.max' rfl rfl) ?_
                      refine LJ.yd rfl (Yd.asI rfl) ?_
                      refine LJ.nil ?_
                      refine CJ.region ?_
                      refine LJ.yd rfl (Yd.add rfl rfl (by unfold I64; omega)) ?_
                      refine LJ.yd rfl (Yd.mvI rfl) ?_
                      refine LJ.nil ?_
                      refine ⟨(k3 + 1, _), ?_, ⟨rfl, rfl, rfl, rfl, rfl, rfl, rfl, rfl, rfl, rfl, rfl, rfl, rfl, rfl, trivial⟩, ⟨rfl, rfl, trivial⟩, Ent.refl _, ?_⟩
                      · refine ⟨by omega, ?_⟩
                        rw [takeC hu66, List.foldl_append, ← hgr]; rfl
                      · first | omega | (dsimp only; omega) | (simp only []; omega)
                    · refine LJ.nil ?_
                      refine CJ.seq ?_
                      refine CJ.condF rfl ?_
                      refine CJ.exit ?_
                      rw [List.take_of_length_le (by omega)] at hgr
                      have hbn := bnm_le hbk
                      unfold bnm at hbn
                      rw [← hgr] at hbn
                      refine CJ.region ?_
                      refine LJ.yd rfl (Yd.mvI rfl) ?_
                      refine LJ.yd rfl (Yd.mvI rfl) ?_
                      refine LJ.yd rfl (Yd.add rfl rfl (by unfold I64; omega)) ?_
                      refine LJ.yd rfl (Yd.add rfl rfl (by unfold I64; omega)) ?_
                      refine LJ.yd rfl (Yd.asI rfl) ?_
                      refine LJ.nil ?_
                      refine CJ.region ?_
                      refine LJ.yd rfl (Yd.add rfl rfl (by unfold I64; omega)) ?_
                      refine LJ.yd rfl (Yd.mvI rfl) ?_
                      refine LJ.nil ?_
                      refine ⟨(j + 1, _), ?_, ⟨rfl, rfl, trivial⟩, ⟨rfl, rfl, trivial⟩, Ent.pick [0, 1] [2] rfl, ?_⟩
                      · refine ⟨by omega, ?_⟩
                        refine ⟨by rw [sumR, ← hbt, ← hl55, bnm, ← hgr], fun d hd => ?_⟩
                        by_cases e : d = j
                        · subst e; rw [← hl55]; exact hbk
                        · exact hkk d (by omega)
                      · first | omega | (dsimp only; omega) | (simp only []; omega)
              · refine LJ.nil ?_
                refine CJ.seq ?_
                refine CJ.condF rfl ?_
                refine CJ.exit ?_
                refine CJ.seq ?_
                refine CJ.region ?_
                refine LJ.yd rfl (Yd.mvI rfl) ?_
                refine LJ.yd rfl (Yd.asI rfl) ?_
                refine LJ.nil ?_
                refine CJ.ret ?_
                refine Fin.V (Res.one (ResV.tmp (v := .int _ _) rfl)) ?_
                first
                  | (rw [btR, if_neg]; intro h; obtain ⟨⟨h1, _⟩, h2, _⟩ := btG_iff.1 h; omega)
                  | (rw [btR, if_neg]; intro h; have := (btG_iff.1 h).1.2 u30 (List.mem_of_getElem? hu30); rw [h32] at this; cases this; done)
                  | (rw [btR, if_neg]
                     intro h
                     obtain ⟨⟨_, h1⟩, _, h2⟩ := btG_iff.1 h
                     obtain ⟨_, _, _, _, _, _⟩ := Pane.ok_iff.1 h32
                     have h3 := h2 u30.Kind.toNat (by omega)
                     have := (barsOk_iff.1 h3).2 u30.W (List.mem_map_of_mem (List.mem_filter.2 ⟨List.mem_of_getElem? hu30, decide_eq_true (by omega)⟩))
                     omega)
                  | (rw [btR, if_neg]; intro h; have := (barsOk_iff.1 ((btG_iff.1 h).2.2 j (by omega))).1.2.2; rw [← hl55] at this; omega)
                  | (rw [btR, if_pos (btG_iff.2 ⟨⟨by omega, fun p hp => (hpk p hp).1⟩, by omega, fun d hd => hkk d (by omega)⟩), hbt, show j = 10 by omega])
end Go.Proofs.Ytkojheinklgdeaa
