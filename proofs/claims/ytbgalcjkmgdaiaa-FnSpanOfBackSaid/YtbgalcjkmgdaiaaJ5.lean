/-
  The laws on spans of jobs and best orders.
-/
import Derived.Test.YtbgalcjkmgdaiaaJ4
import Derived.Test.YtbgalcjkmgdaiaaJ3
namespace Go.Proofs.Ytbgalcjkmgdaiaa
open Go
set_option maxRecDepth 20000
set_option maxHeartbeats 1000000

def JobsL (v : Value) (gs : List HProp) : Prop :=
  ∃ (l : List Job) (aa : Option Addr) (m cc : Nat), v = .slice aa m cc ∧ gs = [LR Job.enc 41 2 aa cc l] ∧ m = l.length ∧ l.length ≤ 7
theorem DrawSpanBound_ok {A : Amb} {a : Option Addr} {n c : Nat} (h : Code A.h a n c) : Ctr Try.prog 26 #[.slice a n c] A [] JobsL := by
  obtain ⟨hcode, hn, ha, hs⟩ := h
  refine Ctr.body (args := [_]) Try.func26 rfl Try.ntmps26 Try.results26 (by simp) ?_
  refine CJ.seq ?_
  refine CJ.region ?_
  refine LJ.yd rfl (Yd.asS rfl) ?_
  refine LJ.nil ?_
  refine CJ.seq ?_
  refine CJ.region ?_
  refine LJ.yd rfl (Yd.mvS rfl) ?_
  refine LJ.call0 rfl (fun k hk dk => newReader_ok hn hcode.up ha hs) ?_
  rintro _ _ ⟨rb, n2, rfl, hn1, hn2, rfl⟩
  have hcode2 := hcode.le hn2
  refine LJ.call (pickF _ []) (pickF _ [0]) rfl (perm_pickF _ [] [0] rfl) (fun k hk dk => someJobs_ok hcode2.up (by omega) (by omega)) ?_
  rintro _ _ ⟨l, aa, m, cc, q, rfl, rfl, rfl, hq0, hq1, hl1, hl2⟩
  refine LJ.norm [_, _] rfl ?_
  refine LJ.yd rfl (Yd.asS rfl) ?_
  refine LJ.nil ?_
  refine CJ.ret ?_
  exact Fin.R [_] (Res.one (ResV.tmp (v := .slice _ _ _) rfl)) ⟨_, _, _, _, rfl, rfl, rfl, hl1⟩ (Ent.pick [1] [0] rfl)
theorem DrawBestOrder_ok {A : Amb} {a : Option Addr} {n c : Nat} (h : Code A.h a n c) : Ctr Try.prog 36 #[.slice a n c] A [] JobsL := by
  obtain ⟨hcode, hn, ha, hs⟩ := h
  refine Ctr.body (args := [_]) Try.func36 rfl Try.ntmps36 Try.results36 (by simp) ?_
  refine CJ.seq ?_
  refine CJ.region ?_
  refine LJ.yd rfl (Yd.asS rfl) ?_
  refine LJ.nil ?_
  refine CJ.seq ?_
  refine CJ.region ?_
  refine LJ.yd rfl (Yd.mvS rfl) ?_
  refine LJ.call0 rfl (fun k hk dk => newReader_ok hn hcode.up ha hs) ?_
  rintro _ _ ⟨rb, n2, rfl, hn1, hn2, rfl⟩
  have hcode2 := hcode.le hn2
  refine LJ.call (pickF _ []) (pickF _ [0]) rfl (perm_pickF _ [] [0] rfl) (fun k hk dk => someJobs_ok hcode2.up (by omega) (by omega)) ?_
  rintro _ _ ⟨l, aa, m, cc, q, rfl, rfl, rfl, hq0, hq1, hl1, hl2⟩
  refine LJ.norm [_, _] rfl ?_
  refine LJ.yd rfl (Yd.asS rfl) ?_
  refine LJ.nil ?_
  refine CJ.ret ?_
  exact Fin.R [_] (Res.one (ResV.tmp (v := .slice _ _ _) rfl)) ⟨_, _, _, _, rfl, rfl, rfl, hl1⟩ (Ent.pick [1] [0] rfl)
theorem ordP_bo (l : List Job) : OrdP (idxBy (ltJ l) l.length) l.length := ⟨idxBy_len _ _, (idxBy_permJ _ _).nodup_iff.2 (upN_nodupJ _), fun x hx => idxBy_mem.1 hx⟩
theorem boR_t {l : List Job} (h : jobsOk l = true) : boR l = idxBy (ltJ l) l.length := by rw [boR, if_pos h]
theorem spR_bo {l : List Job} (h : jobsOk l = true) : spR l (boR l) = spn 0 0 (bj l) := by rw [boR_t h, spR, if_pos ⟨h, ordP_bo l⟩]; rfl
theorem jn_of {l : List Job} (h : jobsOk l = true) : ∀ y ∈ l, JN y := fun y hy => by have := (jobsOk_iff.1 h).2 y hy; exact ⟨by omega, by omega⟩
theorem jobsOk_sub {l r : List Job} (h : jobsOk l = true) (hr : ∀ y ∈ r, y ∈ l) (hn : r.length ≤ l.length) : jobsOk r = true := jobsOk_iff.2 ⟨by have := (jobsOk_iff.1 h).1; omega, fun y hy => (jobsOk_iff.1 h).2 y (hr y hy)⟩
theorem spR_bound {l : List Job} (h : jobsOk l = true) {o : List Int} (ho : OrdP o l.length) : 0 ≤ spR l o ∧ spR l o ≤ 1000000 := by
  rw [spR, if_pos ⟨h, ho⟩]
  have hj : ∀ y ∈ o.map (gj l), 0 ≤ y.Cut ∧ y.Cut ≤ 500 ∧ 0 ≤ y.Heat ∧ y.Heat ≤ 500 := fun y hy => by
    obtain ⟨x, hx, rfl⟩ := List.mem_map.1 hy
    have := ho.2.2 x hx
    obtain ⟨u, hu⟩ := someC (l := l) (j := x.toNat) (by omega)
    rw [gjC hu]; exact (jobsOk_iff.1 h).2 u (List.mem_of_getElem? hu)
  have key : ∀ (r : List Job) (c q : Int), (∀ y ∈ r, 0 ≤ y.Cut ∧ y.Cut ≤ 500 ∧ 0 ≤ y.Heat ∧ y.Heat ≤ 500) → 0 ≤ q → q ≤ spn c q r ∧ spn c q r ≤ max c q + 1000 * r.length := by
    intro r
    induction r with
    | nil => intro c q _ _; simp only [spn, List.length_nil]; omega
    | cons j r ih =>
      intro c q hr hq
      have h1 := hr j List.mem_cons_self
      have h2 := ih (c + j.Cut) (max (c + j.Cut) q + j.Heat) (fun y hy => hr y (List.mem_cons_of_mem _ hy)) (by omega)
      simp only [spn, List.length_cons]; omega
  have := key _ 0 0 hj (Int.le_refl _)
  have h1 := (jobsOk_iff.1 h).1
  have h2 := ho.1
  rw [List.length_map] at this
  omega
theorem SpanOf_v {A : Amb} {v w : Value} {l : List Job} {o : List Int} {x : Int} (hl : RdL Job.enc 2 A.h v l) (ho : RdL encI 1 A.h w o) (hn : l.length ≤ 1000) (e : spR l o = x) : Ctr Try.prog 29 #[v, w] A [] (Val (vI x)) := e ▸ SpanOfI_ok hl ho hn
theorem sbR_le {l : List Job} (h : jobsOk l = true) : sbR l ≤ spn 0 0 (bj l) := by
  have hn := jn_of h
  have hb : ∀ y ∈ bj l, JN y := fun y hy => hn y ((bj_perm l).mem_iff.1 hy)
  rw [sbR, if_pos h, spn_way0 hb]
  split
  · exact (sH_nn hb).2.2
  · rename_i h0
    have hne : bj l ≠ [] := fun e => by
      have := (bj_perm l).length_eq; rw [e] at this; simp at this; omega
    have h1 := bound_way hne hb
    have h2 := s_perm (bj_perm l)
    omega
theorem FnSpanBound_ok {A : Amb} {a : Option Addr} {n c : Nat} (hc : Code A.h a n c) : Ctr Try.prog 9 #[.slice a n c] A [] (Val (.bool true)) := by
  refine Ctr.body (args := [_]) Try.func9 rfl Try.ntmps9 Try.results9 (by simp) ?_
  refine CJ.seq ?_
  refine CJ.region ?_
  refine LJ.yd rfl (Yd.asB rfl) ?_
  refine LJ.nil ?_
  refine CJ.seq ?_
  refine CJ.seq ?_
  refine CJ.region ?_
  refine LJ.yd rfl (Yd.mvS rfl) ?_
  refine LJ.yd rfl (Yd.len rfl) ?_
  refine LJ.splitD rfl (Yd.gtr rfl rfl) (fun h11 => ?_) (fun h11 => ?_)
  · refine LJ.nil ?_
    refine CJ.condT rfl ?_
    refine CJ.seq ?_
    refine CJ.region ?_
    refine LJ.yd rfl (Yd.asB rfl) ?_
    refine LJ.nil ?_
    refine CJ.ret ?_
    refine Fin.V (Res.one (ResV.tmp (v := .bool true) rfl)) ?_
    rfl
  · refine LJ.nil ?_
    refine CJ.condF rfl ?_
    refine CJ.skip ?_
    refine CJ.seq ?_
    refine CJ.region ?_
    refine LJ.yd rfl (Yd.mvS rfl) ?_
    refine LJ.call0 rfl (fun k hk dk => DrawSpanBound_ok hc.up) ?_
    rintro _ _ ⟨l, aa, m, cc, rfl, rfl, rfl, hl1⟩
    refine LJ.norm [_] rfl ?_
    refine LJ.yd rfl (Yd.asS rfl) ?_
    refine LJ.nil ?_
    refine CJ.seq ?_
    refine CJ.amb (perm_pickF _ [0] [] rfl) (fun ml wl dl => ?_)
    refine CJ.norm [] rfl ?_
    have hl := Row.toA (enc := Job.enc) wl dl (by first | rfl | omega | (simp; done) | (simp; omega) | (simp [upN_len]; omega) | (simp [idxBy_len]; omega) | (simp [marks_len]; omega) | (simp [upN_len]; done) | (simp [idxBy_len]; done) | (simp [marks_len]; done) | (simp at *; omega))
    refine CJ.region ?_
    refine LJ.yd rfl (Yd.mvS rfl) ?_
    refine LJ.callV rfl (fun k hk dk => SpanBoundI_ok (RdRow.up hl)) ?_
    refine LJ.yd rfl (Yd.asI rfl) ?_
    refine LJ.nil ?_
    refine CJ.seq ?_
    refine CJ.seq ?_
    refine CJ.region ?_
    refine LJ.yd rfl (Yd.mvI rfl) ?_
    refine LJ.yd rfl (Yd.mvS rfl) ?_
    refine LJ.callV rfl (fun k hk dk => SpanBoundS_ok (RdRow.up hl)) ?_
    refine LJ.splitN rfl (Yd.neq rfl rfl) (fun h19 => ?_) (fun h19 => ?_)
    · exfalso; omega
    · refine LJ.yd rfl (Yd.mvB rfl) ?_
      refine LJ.gT rfl ?_
      refine LJ.yd rfl (Yd.mvI rfl) ?_
      refine LJ.gT rfl ?_
      refine LJ.splitD rfl (Yd.lss rfl rfl) (fun h22 => ?_) (fun h22 => ?_)
      · refine LJ.yd rfl (Yd.pickFB rfl rfl) ?_
        refine LJ.nil ?_
        refine CJ.condT rfl ?_
        refine CJ.seq ?_
        refine CJ.region ?_
        refine LJ.yd rfl (Yd.mvI rfl) ?_
        refine LJ.yd rfl (Yd.mvS rfl) ?_
        refine LJ.callV rfl (fun k hk dk => SpanBoundS_ok (RdRow.up hl)) ?_
        refine LJ.splitD rfl (Yd.eql rfl rfl) (fun h27 => ?_) (fun h27 => ?_)
        · refine LJ.yd rfl (Yd.asB rfl) ?_
          refine LJ.nil ?_
          refine CJ.ret ?_
          refine Fin.V (Res.one (ResV.tmp (v := .bool true) rfl)) ?_
          rfl
        · exfalso; omega
      · refine LJ.yd rfl (Yd.pickFB rfl rfl) ?_
        refine LJ.nil ?_
        refine CJ.condF rfl ?_
        refine CJ.skip ?_
        refine CJ.seq ?_
        have hjo : jobsOk l = true := by
          cases hb : jobsOk l with
          | true => rfl
          | false => exfalso; rw [sbR, hb] at h22; exact h22 (by rw [if_neg (by decide)]; decide)
        have hbl : (boR l).length = l.length := by rw [boR_t hjo, idxBy_len]
        have hb1 := spR_bound hjo (ordP_bo l)
        rw [← boR_t hjo, spR_bo hjo] at hb1
        have hsb := sbR_le hjo
        refine CJ.region ?_
        refine LJ.yd rfl (Yd.mvS rfl) ?_
        refine LJ.yd rfl (Yd.mvS rfl) ?_
        refine LJ.call0 rfl (fun k hk dk => BestOrderI_ok (RdRow.up hl)) ?_
        rintro _ _ ⟨ra30, rc30, rfl, rfl⟩
        refine LJ.norm [_] rfl ?_
        refine LJ.callV rfl (fun k hk dk => SpanOf_v (RdRow.up hl) (Sts.lrm hk dk 0 (by first | omega | (have := hbl; omega) | (rw [boR_t hjr, idxBy_len]; simp; omega) | (simp; omega)) (by first | rfl | omega | (simp; done) | (simp; omega) | (simp [upN_len]; omega) | (simp [idxBy_len]; omega) | (simp [marks_len]; omega) | (simp [upN_len]; done) | (simp [idxBy_len]; done) | (simp [marks_len]; done) | (simp at *; omega)) rfl) (by omega) (spR_bo hjo)) ?_
        refine LJ.yd rfl (Yd.asI rfl) ?_
        refine LJ.nil ?_
        refine CJ.seq ?_
        refine CJ.seq ?_
        refine CJ.region ?_
        refine LJ.yd rfl (Yd.asI rfl) ?_
        refine LJ.nil ?_
        refine CJ.block ?_
        refine CJ.loopK [3, 4, 5] Nat (fun k => k ≤ l.length) (fun k => [(6, vI k)]) (fun k => l.length - k) (0) ?_ ⟨rfl, trivial⟩ ?_
        · exact by omega
        · rintro k σ hk1
          refine CJ.seq ?_
          refine CJ.seq ?_
          refine CJ.region ?_
          refine LJ.yd rfl (Yd.mvI rfl) ?_
          refine LJ.yd rfl (Yd.mvS rfl) ?_
          refine LJ.yd rfl (Yd.len rfl) ?_
          refine LJ.splitD rfl (Yd.lss rfl rfl) (fun h35 => ?_) (fun h35 => ?_)
          · refine LJ.nil ?_
            refine CJ.condT rfl ?_
            refine CJ.skip ?_
            refine CJ.seq ?_
            refine CJ.block ?_
            refine CJ.seq ?_
            refine CJ.regionD [0] [] (by kernel_rfl) rfl ?_
            refine DJ.norm [_] [] rfl rfl ?_
            refine DJ.yd 1 rfl (by kernel_rfl) (by kernel_rfl) (by kernel_rfl) rfl rfl (Yd.mvS rfl) ?_
            refine DJ.yd 2 rfl (by kernel_rfl) (by kernel_rfl) (by kernel_rfl) rfl rfl (Yd.mvI rfl) ?_
            refine DJ.slHA 3 rfl (by kernel_rfl) (by kernel_rfl) (by kernel_rfl) rfl rfl hl rfl rfl (by omega) (by first | rfl | omega | (simp; done) | (simp; omega) | (simp [upN_len]; omega) | (simp [idxBy_len]; omega) | (simp [marks_len]; omega) | (simp [upN_len]; done) | (simp [idxBy_len]; done) | (simp [marks_len]; done) | (simp at *; omega)) (Row.none_cap wl) (Row.spot wl) (fun sm41 hsm41 hs41 => ?_)
            refine DJ.yd 5 rfl (by kernel_rfl) (by kernel_rfl) (by kernel_rfl) rfl rfl (Yd.mvS rfl) ?_
            refine DJ.yd 6 rfl (by kernel_rfl) (by kernel_rfl) (by kernel_rfl) rfl rfl (Yd.mvI rfl) ?_
            refine DJ.yd 7 rfl (by kernel_rfl) (by kernel_rfl) (by kernel_rfl) rfl rfl (Yd.add rfl rfl (by unfold I64; omega)) ?_
            refine DJ.slLA 8 rfl (by kernel_rfl) (by kernel_rfl) (by kernel_rfl) rfl rfl hl rfl rfl (by omega) (by first | rfl | omega | (simp; done) | (simp; omega) | (simp [upN_len]; omega) | (simp [idxBy_len]; omega) | (simp [marks_len]; omega) | (simp [upN_len]; done) | (simp [idxBy_len]; done) | (simp [marks_len]; done) | (simp at *; omega)) (Row.adr wl) (fun sa46 sm46 sc46 hsm46 hs46 => ?_)
            refine DJ.one (i := 0) (by kernel_rfl) ?_
            refine DO.op rfl rfl rfl (fun k0 hk0 dk0 => OpR.buildSlice (cs := []) rfl rfl) ?_
            rintro _ _ ⟨b2, rfl, rfl⟩
            refine DJ.one (i := 4) (by kernel_rfl) ?_
            refine DO.imp1 0 rfl (fun _ h => Cel.lr (enc := Job.enc) (k := 2) (m := 0) [] rfl rfl rfl rfl h) ?_
            refine DO.norm [_] rfl ?_
            refine DO.op rfl rfl rfl (fun k0 hk0 dk0 => OpR.apA (enc := Job.enc) 0 rfl (RdRow.up hs41) rfl (by first | rfl | omega | (simp; done) | (simp; omega) | (simp [upN_len]; omega) | (simp [idxBy_len]; omega) | (simp [marks_len]; omega) | (simp [upN_len]; done) | (simp [idxBy_len]; done) | (simp [marks_len]; done) | (simp at *; omega)) rfl (fun _ => rfl) (by first | rfl | omega | (simp; done) | (simp; omega) | (simp [upN_len]; omega) | (simp [idxBy_len]; omega) | (simp [marks_len]; omega) | (simp [upN_len]; done) | (simp [idxBy_len]; done) | (simp [marks_len]; done) | (simp at *; omega))) ?_
            rintro _ _ ⟨ra42, rc42, rfl, rfl⟩
            refine DJ.norm [_] [_] rfl rfl ?_
            refine DJ.one (i := 9) (by kernel_rfl) ?_
            refine DO.op rfl rfl rfl (fun k0 hk0 dk0 => OpR.apA (enc := Job.enc) 0 rfl (RdRow.up hs46) rfl (by first | rfl | omega | (simp; done) | (simp; omega) | (simp [upN_len]; omega) | (simp [idxBy_len]; omega) | (simp [marks_len]; omega) | (simp [upN_len]; done) | (simp [idxBy_len]; done) | (simp [marks_len]; done) | (simp at *; omega)) rfl (fun _ => rfl) (by first | rfl | omega | (simp; done) | (simp; omega) | (simp [upN_len]; omega) | (simp [idxBy_len]; omega) | (simp [marks_len]; omega) | (simp [upN_len]; done) | (simp [idxBy_len]; done) | (simp [marks_len]; done) | (simp at *; omega))) ?_
            rintro _ _ ⟨ra47, rc47, rfl, rfl⟩
            refine DJ.norm [_] [_] rfl rfl ?_
            refine DJ.yd 10 rfl (by kernel_rfl) (by kernel_rfl) (by kernel_rfl) rfl rfl (Yd.asS rfl) ?_
            refine DJ.done (by kernel_rfl) ?_
            refine CJ.seq ?_
            obtain ⟨x, hx⟩ := someC (l := l) (j := k) (by omega)
            have hfx := (jobsOk_iff.1 hjo).2 x (List.mem_of_getElem? hx)
            have hR : [] ++ l.take sm41 ++ l.drop ((k : Int) + 1).toNat = l.take k ++ l.drop (k + 1) := by rw [hsm41]; simp
            rw [hR]
            have hle : l = l.take k ++ x :: l.drop (k + 1) := by rw [← dropC hx, List.take_append_drop]
            have hrl : (l.take k ++ l.drop (k + 1)).length ≤ l.length := by simp; omega
            have hjr : jobsOk (l.take k ++ l.drop (k + 1)) = true := jobsOk_sub hjo (fun y hy => (List.mem_append.1 hy).elim List.mem_of_mem_take List.mem_of_mem_drop) hrl
            have hbr : (boR (l.take k ++ l.drop (k + 1))).length ≤ l.length := by rw [boR_t hjr, idxBy_len]; exact hrl
            have hw := bj_without (u := l.take k) (v := l.drop (k + 1)) (x := x) (fun y hy => jn_of hjo y (by rw [hle]; exact hy))
            rw [← hle] at hw
            have hb2 := spR_bound hjr (ordP_bo (l.take k ++ l.drop (k + 1)))
            rw [← boR_t hjr, spR_bo hjr] at hb2
            refine CJ.region ?_
            refine LJ.yd rfl (Yd.mvS rfl) ?_
            refine LJ.yd rfl (Yd.mvS rfl) ?_
            refine LJ.call0 rfl (fun k hk dk => BestOrderI_ok (Sts.lrm hk dk 1 (by first | omega | (have := hbl; omega) | (rw [boR_t hjr, idxBy_len]; simp; omega) | (simp; omega)) (by first | rfl | omega | (simp; done) | (simp; omega) | (simp [upN_len]; omega) | (simp [idxBy_len]; omega) | (simp [marks_len]; omega) | (simp [upN_len]; done) | (simp [idxBy_len]; done) | (simp [marks_len]; done) | (simp at *; omega)) rfl)) ?_
            rintro _ _ ⟨ra50, rc50, rfl, rfl⟩
            refine LJ.norm [_, _, _] rfl ?_
            refine LJ.callV rfl (fun k hk dk => SpanOf_v (Sts.lrm hk dk 1 (by first | omega | (have := hbl; omega) | (rw [boR_t hjr, idxBy_len]; simp; omega) | (simp; omega)) (by first | rfl | omega | (simp; done) | (simp; omega) | (simp [upN_len]; omega) | (simp [idxBy_len]; omega) | (simp [marks_len]; omega) | (simp [upN_len]; done) | (simp [idxBy_len]; done) | (simp [marks_len]; done) | (simp at *; omega)) rfl) (Sts.lrm hk dk 2 (by first | omega | (have := hbl; omega) | (rw [boR_t hjr, idxBy_len]; simp; omega) | (simp; omega)) (by first | rfl | omega | (simp; done) | (simp; omega) | (simp [upN_len]; omega) | (simp [idxBy_len]; omega) | (simp [marks_len]; omega) | (simp [upN_len]; done) | (simp [idxBy_len]; done) | (simp [marks_len]; done) | (simp at *; omega)) rfl) (by omega) (spR_bo hjr)) ?_
            refine LJ.yd rfl (Yd.asI rfl) ?_
            refine LJ.nil ?_
            refine CJ.seq ?_
            refine CJ.regionD [0, 1, 2] [] (by kernel_rfl) rfl ?_
            refine DJ.norm [_, _, _] [] rfl rfl ?_
            refine DJ.yd 0 rfl (by kernel_rfl) (by kernel_rfl) (by kernel_rfl) rfl rfl (Yd.mvI rfl) ?_
            refine DJ.yd 1 rfl (by kernel_rfl) (by kernel_rfl) (by kernel_rfl) rfl rfl (Yd.mvI rfl) ?_
            refine DJ.splitD 2 rfl (by kernel_rfl) (by kernel_rfl) (by kernel_rfl) rfl rfl (Yd.gtr rfl rfl) (fun h54 => ?_) (fun h54 => ?_)
            · exfalso; omega
            · refine DJ.yd 3 rfl (by kernel_rfl) (by kernel_rfl) (by kernel_rfl) rfl rfl (Yd.mvB rfl) ?_
              refine DJ.yd 4 rfl (by kernel_rfl) (by kernel_rfl) (by kernel_rfl) rfl rfl (Yd.mvI rfl) ?_
              refine DJ.yd 5 rfl (by kernel_rfl) (by kernel_rfl) (by kernel_rfl) rfl rfl (Yd.mvI rfl) ?_
              refine DJ.yd 6 rfl (by kernel_rfl) (by kernel_rfl) (by kernel_rfl) rfl rfl (Yd.mvS rfl) ?_
              refine DJ.yd 7 rfl (by kernel_rfl) (by kernel_rfl) (by kernel_rfl) rfl rfl (Yd.mvI rfl) ?_
              refine DJ.idxA 8 rfl (by kernel_rfl) (by kernel_rfl) (by kernel_rfl) rfl rfl hl rfl rfl (by omega) (by first | rfl | omega | (simp; done) | (simp; omega) | (simp [upN_len]; omega) | (simp [idxBy_len]; omega) | (simp [marks_len]; omega) | (simp [upN_len]; done) | (simp [idxBy_len]; done) | (simp [marks_len]; done) | (simp at *; omega)) (fun ib60 io60 ia60 ir60 => ?_)
              refine DJ.yd 9 rfl (by kernel_rfl) (by kernel_rfl) (by kernel_rfl) rfl rfl (Yd.fieldAddr rfl) ?_
              refine DJ.ldA 10 rfl (by kernel_rfl) (by kernel_rfl) (by kernel_rfl) rfl rfl 0 (fun u => vI u.Cut) (fun _ => rfl) ir60 rfl rfl (by first | rfl | omega | (simp; done) | (simp; omega) | (simp [upN_len]; omega) | (simp [idxBy_len]; omega) | (simp [marks_len]; omega) | (simp [upN_len]; done) | (simp [idxBy_len]; done) | (simp [marks_len]; done) | (simp at *; omega)) (fun u62 hu62 => ?_)
              try simp only [Int.toNat_natCast] at hu62
              obtain rfl : x = u62 := by rw [hx] at hu62; exact Option.some.inj hu62
              refine DJ.yd 11 rfl (by kernel_rfl) (by kernel_rfl) (by kernel_rfl) rfl rfl (Yd.sub rfl rfl (by unfold I64; omega)) ?_
              refine DJ.yd 12 rfl (by kernel_rfl) (by kernel_rfl) (by kernel_rfl) rfl rfl (Yd.mvS rfl) ?_
              refine DJ.yd 13 rfl (by kernel_rfl) (by kernel_rfl) (by kernel_rfl) rfl rfl (Yd.mvI rfl) ?_
              refine DJ.idxA 14 rfl (by kernel_rfl) (by kernel_rfl) (by kernel_rfl) rfl rfl hl rfl rfl (by omega) (by first | rfl | omega | (simp; done) | (simp; omega) | (simp [upN_len]; omega) | (simp [idxBy_len]; omega) | (simp [marks_len]; omega) | (simp [upN_len]; done) | (simp [idxBy_len]; done) | (simp [marks_len]; done) | (simp at *; omega)) (fun ib66 io66 ia66 ir66 => ?_)
              refine DJ.yd 15 rfl (by kernel_rfl) (by kernel_rfl) (by kernel_rfl) rfl rfl (Yd.fieldAddr rfl) ?_
              refine DJ.ldA 16 rfl (by kernel_rfl) (by kernel_rfl) (by kernel_rfl) rfl rfl 1 (fun u => vI u.Heat) (fun _ => rfl) ir66 rfl rfl (by first | rfl | omega | (simp; done) | (simp; omega) | (simp [upN_len]; omega) | (simp [idxBy_len]; omega) | (simp [marks_len]; omega) | (simp [upN_len]; done) | (simp [idxBy_len]; done) | (simp [marks_len]; done) | (simp at *; omega)) (fun u68 hu68 => ?_)
              try simp only [Int.toNat_natCast] at hu68
              obtain rfl : x = u68 := by rw [hx] at hu68; exact Option.some.inj hu68
              refine DJ.yd 17 rfl (by kernel_rfl) (by kernel_rfl) (by kernel_rfl) rfl rfl (Yd.sub rfl rfl (by unfold I64; omega)) ?_
              refine DJ.splitD 18 rfl (by kernel_rfl) (by kernel_rfl) (by kernel_rfl) rfl rfl (Yd.lss rfl rfl) (fun h70 => ?_) (fun h70 => ?_)
              · exfalso; omega
              · refine DJ.yd 19 rfl (by kernel_rfl) (by kernel_rfl) (by kernel_rfl) rfl rfl (Yd.pickFB rfl rfl) ?_
                refine DJ.done (by kernel_rfl) ?_
                refine CJ.condF rfl ?_
                refine CJ.skip ?_
                refine CJ.region ?_
                refine LJ.yd rfl (Yd.mvI rfl) ?_
                refine LJ.yd rfl (Yd.add rfl rfl (by unfold I64; omega)) ?_
                refine LJ.yd rfl (Yd.asI rfl) ?_
                refine LJ.nil ?_
                refine ⟨(k + 1), ?_, ⟨rfl, rfl, rfl, trivial⟩, ⟨rfl, trivial⟩, Ent.pick [0] [1, 2] rfl, ?_⟩
                · omega
                · first | omega | (dsimp only; omega) | (simp only []; omega)
          · refine LJ.nil ?_
            refine CJ.condF rfl ?_
            refine CJ.exit ?_
            refine CJ.seq ?_
            refine CJ.region ?_
            refine LJ.yd rfl (Yd.mvI rfl) ?_
            refine LJ.yd rfl (Yd.mvI rfl) ?_
            refine LJ.splitD rfl (Yd.leq rfl rfl) (fun h74 => ?_) (fun h74 => ?_)
            · refine LJ.yd rfl (Yd.asB rfl) ?_
              refine LJ.nil ?_
              refine CJ.ret ?_
              refine Fin.V (Res.one (ResV.tmp (v := .bool true) rfl)) ?_
              rfl
            · exfalso; omega
end Go.Proofs.Ytbgalcjkmgdaiaa
