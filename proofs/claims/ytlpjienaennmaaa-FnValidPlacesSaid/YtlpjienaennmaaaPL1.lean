/-
  Contracts: the parts of a plan with their boxes.
-/
import Derived.Test.YtlpjienaennmaaaP4
import Derived.Test.YtlpjienaennmaaaLL
import Derived.Test.YtlpjienaennmaaaA1
namespace Go.Proofs.Ytlpjienaennmaaa
open Go
set_option maxRecDepth 20000
set_option maxHeartbeats 1000000

/-- a part of a plan: its cells, its box, and the tree -/
structure Pt where
  o : Int
  a : Int
  p : Int
  t : Bool
  x : Option Addr
  n : Nat
  c : Nat
  b : Box
  q : BT
abbrev encPt (u : Pt) : List Value := [vI u.o, vI u.a, vI u.p, .bool u.t, .slice u.x u.n u.c, vI u.b.X, vI u.b.Y, vI u.b.W, vI u.b.H]
structure Plc where
  p : Int
  t : Bool
  b : Box
  deriving DecidableEq
abbrev encPl (u : Plc) : List Value := [vI u.p, .bool u.t, vI u.b.X, vI u.b.Y, vI u.b.W, vI u.b.H]
abbrev agX (b : Box) : Value := .agg #[vI b.X, vI b.Y, vI b.W, vI b.H]
def bxL (d : Bool) (a : Int) (g : Box) : Box := if d then ⟨g.X, g.Y, a, g.H⟩ else ⟨g.X, g.Y, g.W, a⟩
def bxR (d : Bool) (a : Int) (g : Box) : Box := if d then ⟨g.X + a, g.Y, g.W - a, g.H⟩ else ⟨g.X, g.Y + a, g.W, g.H - a⟩
def BT.parts : BT → Box → List (BT × Box)
  | .w, g => [(.w, g)]
  | .p i t, g => [(.p i t, g)]
  | .c d a l r, g => (.c d a l r, g) :: (l.parts (bxL d a g) ++ r.parts (bxR d a g))
def PtOk (u : Pt) : Prop := match u.q with
  | .w => u.o = 0
  | .p i t => u.o = 1 ∧ u.p = i ∧ u.t = t
  | .c d _ _ _ => u.o = opOf d
/-- the glass is no larger than can be -/
def GOk (g : Box) : Prop := 0 ≤ g.X ∧ g.X + g.W ≤ 1000 ∧ 0 ≤ g.Y ∧ g.Y + g.H ≤ 1000 ∧ 0 ≤ g.W ∧ 0 ≤ g.H
theorem fits_c {ps : List Pane} {d : Bool} {a W H : Int} {l r : BT} (h : (BT.c d a l r).fits ps W H = true) :
    (d = true → 1 ≤ a ∧ a < W ∧ l.fits ps a H = true ∧ r.fits ps (W - a) H = true) ∧ (d = false → 1 ≤ a ∧ a < H ∧ l.fits ps W a = true ∧ r.fits ps W (H - a) = true) := by
  cases d <;> simp [BT.fits] at h <;> simp <;> exact ⟨by omega, by omega, by simp [h], by simp [h]⟩
theorem fits_k {ps : List Pane} {d : Bool} {a : Int} {l r : BT} {g : Box} (h : (BT.c d a l r).fits ps g.W g.H = true) (hg : GOk g) :
    l.fits ps (bxL d a g).W (bxL d a g).H = true ∧ r.fits ps (bxR d a g).W (bxR d a g).H = true ∧ GOk (bxL d a g) ∧ GOk (bxR d a g) ∧ 1 ≤ a := by
  obtain ⟨h1, h2⟩ := fits_c h
  obtain ⟨_, _, _, _, _, _⟩ := hg
  cases d
  · obtain ⟨a1, a2, a3, a4⟩ := h2 rfl
    refine ⟨by simpa [bxL] using a3, by simpa [bxR] using a4, ?_, ?_, a1⟩ <;> simp [GOk, bxL, bxR] <;> omega
  · obtain ⟨a1, a2, a3, a4⟩ := h1 rfl
    refine ⟨by simpa [bxL] using a3, by simpa [bxR] using a4, ?_, ?_, a1⟩ <;> simp [GOk, bxL, bxR] <;> omega
def PtR (L0 : List Pt) (b : BT) (g : Box) (v : Value) (gs : List HProp) : Prop :=
  ∃ a c, ∃ L' L1 : List Pt, v = .slice a L'.length c ∧ gs = [LR encPt 82 9 a c L'] ∧ L' = L0 ++ L1 ∧ (L1.map fun u => (u.q, u.b)) = b.parts g ∧ ∀ u ∈ L1, PtOk u
theorem parts_len : ∀ (b : BT) (g : Box), ((b.parts g).length : Int) = b.sz
  | .w, _ => rfl
  | .p _ _, _ => rfl
  | .c d a l r, g => by have := parts_len l (bxL d a g); have := parts_len r (bxR d a g); simp only [BT.parts, List.length_cons, List.length_append, BT.sz]; omega
theorem isCutI_d (A : Amb) (d : Bool) (a p : Int) (t : Bool) (v : Value) : Ctr Try.prog 107 #[.agg #[vI (opOf d), vI a, vI p, .bool t, v]] A [] (Val (.bool true)) := by
  have := isCutI_ok A (opOf d) a p t v
  cases d <;> simpa [opOf] using this
theorem addParts_ok (b : BT) : ∀ (A : Amb) (cs : List Value) (g : Box) (L0 : List Pt) (a : Option Addr) (m c : Nat) (ps : List Pane), m = L0.length → L0.length + b.sz ≤ 100000 → GOk g → b.fits ps g.W g.H = true → RdT A.h cs b →
    Ctr Try.prog 83 #[.slice a m c, .agg cs.toArray, agX g] A [LR encPt 82 9 a c L0] (PtR L0 b g) := by
  induction b with
  | w =>
    intro A cs g L0 a m c ps hm hk hg hf hr
    cases hr; subst hm
    simp only [BT.sz] at hk
    refine Ctr.body (args := [_, _, _]) Try.func83 rfl Try.ntmps83 Try.results83 (by simp) ?_
    refine CJ.seq ?_
    refine CJ.region ?_
    refine LJ.boxG (vs := [_, _, _, _, _]) rfl rfl (fun b1 => ?_)
    refine LJ.boxG (vs := [_, _, _, _]) rfl rfl (fun b2 => ?_)
    refine LJ.yd rfl (Yd.asS rfl) ?_
    refine LJ.nil ?_
    refine CJ.seq ?_
    refine CJ.region ?_
    refine LJ.yd rfl (Yd.mvS rfl) ?_
    refine LJ.yd rfl (Yd.loadG (us := [_, _, _, _, _]) 1 rfl rfl rfl rfl) ?_
    refine LJ.yd rfl (Yd.loadG (us := [_, _, _, _]) 2 rfl rfl rfl rfl) ?_
    refine LJ.yd rfl (Yd.build (cs := [_, _, _, _, _, _, _, _, _]) rfl) ?_
    refine LJ.op rfl (OpR.buildSlice (cs := [_, _, _, _, _, _, _, _, _]) rfl rfl) ?_
    rintro _ _ ⟨b3, rfl, rfl⟩
    refine LJ.op rfl (OpR.apT (enc := encPt) [⟨_, _, _, _, _, _, _, g, .w⟩] 0 3 rfl rfl rfl (by first | rfl | omega | (simp; done) | (simp; omega) | (simp [upN_len]; omega) | (simp [idxBy_len]; omega) | (simp [marks_len]; omega) | (simp [upN_len]; done) | (simp [idxBy_len]; done) | (simp [marks_len]; done) | (simp at *; omega)) rfl rfl rfl rfl rfl (by first | rfl | omega | (simp; done) | (simp; omega) | (simp [upN_len]; omega) | (simp [idxBy_len]; omega) | (simp [marks_len]; omega) | (simp [upN_len]; done) | (simp [idxBy_len]; done) | (simp [marks_len]; done) | (simp at *; omega))) ?_
    rintro _ _ ⟨ra14, rc14, rfl, rfl⟩
    refine LJ.norm [_, _, _, _] rfl ?_
    refine LJ.yd rfl (Yd.asS rfl) ?_
    refine LJ.nil ?_
    refine CJ.seq ?_
    refine CJ.seq ?_
    refine CJ.region ?_
    refine LJ.yd rfl (Yd.loadG (us := [_, _, _, _, _]) 1 rfl rfl rfl rfl) ?_
    refine LJ.callV rfl (fun k hk dk => isCutI_ok _ _ _ _ _ _) ?_
    refine LJ.nil ?_
    refine CJ.condF rfl ?_
    refine CJ.skip ?_
    refine CJ.seq ?_
    refine CJ.region ?_
    refine LJ.yd rfl (Yd.mvS rfl) ?_
    refine LJ.yd rfl (Yd.asS rfl) ?_
    refine LJ.nil ?_
    refine CJ.ret ?_
    exact Fin.R [_] (Res.one (ResV.tmp (v := .slice _ _ _) rfl)) ⟨_, _, _, [⟨_, _, _, _, _, _, _, _, .w⟩], rfl, rfl, rfl, rfl, fun u hu => by cases List.mem_singleton.1 hu; rfl⟩ (Ent.pick [0] [1, 2, 3] rfl)
  | p i t =>
    intro A cs g L0 a m c ps hm hk hg hf hr
    cases hr; subst hm
    simp only [BT.sz] at hk
    refine Ctr.body (args := [_, _, _]) Try.func83 rfl Try.ntmps83 Try.results83 (by simp) ?_
    refine CJ.seq ?_
    refine CJ.region ?_
    refine LJ.boxG (vs := [_, _, _, _, _]) rfl rfl (fun b1 => ?_)
    refine LJ.boxG (vs := [_, _, _, _]) rfl rfl (fun b2 => ?_)
    refine LJ.yd rfl (Yd.asS rfl) ?_
    refine LJ.nil ?_
    refine CJ.seq ?_
    refine CJ.region ?_
    refine LJ.yd rfl (Yd.mvS rfl) ?_
    refine LJ.yd rfl (Yd.loadG (us := [_, _, _, _, _]) 1 rfl rfl rfl rfl) ?_
    refine LJ.yd rfl (Yd.loadG (us := [_, _, _, _]) 2 rfl rfl rfl rfl) ?_
    refine LJ.yd rfl (Yd.build (cs := [_, _, _, _, _, _, _, _, _]) rfl) ?_
    refine LJ.op rfl (OpR.buildSlice (cs := [_, _, _, _, _, _, _, _, _]) rfl rfl) ?_
    rintro _ _ ⟨b3, rfl, rfl⟩
    refine LJ.op rfl (OpR.apT (enc := encPt) [⟨_, _, _, _, _, _, _, g, .p i t⟩] 0 3 rfl rfl rfl (by first | rfl | omega | (simp; done) | (simp; omega) | (simp [upN_len]; omega) | (simp [idxBy_len]; omega) | (simp [marks_len]; omega) | (simp [upN_len]; done) | (simp [idxBy_len]; done) | (simp [marks_len]; done) | (simp at *; omega)) rfl rfl rfl rfl rfl (by first | rfl | omega | (simp; done) | (simp; omega) | (simp [upN_len]; omega) | (simp [idxBy_len]; omega) | (simp [marks_len]; omega) | (simp [upN_len]; done) | (simp [idxBy_len]; done) | (simp [marks_len]; done) | (simp at *; omega))) ?_
    rintro _ _ ⟨ra14, rc14, rfl, rfl⟩
    refine LJ.norm [_, _, _, _] rfl ?_
    refine LJ.yd rfl (Yd.asS rfl) ?_
    refine LJ.nil ?_
    refine CJ.seq ?_
    refine CJ.seq ?_
    refine CJ.region ?_
    refine LJ.yd rfl (Yd.loadG (us := [_, _, _, _, _]) 1 rfl rfl rfl rfl) ?_
    refine LJ.callV rfl (fun k hk dk => isCutI_ok _ _ _ _ _ _) ?_
    refine LJ.nil ?_
    refine CJ.condF rfl ?_
    refine CJ.skip ?_
    refine CJ.seq ?_
    refine CJ.region ?_
    refine LJ.yd rfl (Yd.mvS rfl) ?_
    refine LJ.yd rfl (Yd.asS rfl) ?_
    refine LJ.nil ?_
    refine CJ.ret ?_
    exact Fin.R [_] (Res.one (ResV.tmp (v := .slice _ _ _) rfl)) ⟨_, _, _, [⟨_, _, _, _, _, _, _, _, .p i t⟩], rfl, rfl, rfl, rfl, fun u hu => by cases List.mem_singleton.1 hu; exact ⟨rfl, rfl, rfl⟩⟩ (Ent.pick [0] [1, 2, 3] rfl)
  | c d x l r ihl ihr =>
    intro A cs g L0 a m c ps hm hk hg hf hr
    obtain _ | _ | ⟨ha, hcap, hrow, hl, hr⟩ := hr
    rename_i kb ko kc cs0 cs1
    subst hm
    simp only [BT.sz] at hk
    have p1 := l.sz_pos
    have p2 := r.sz_pos
    obtain ⟨f1, f2, g1, g2, hx1⟩ := fits_k hf hg
    obtain ⟨_, _, _, _, _, _⟩ := id hg
    obtain ⟨_, _, _, _, _, _⟩ := id g1
    have hx2 : x ≤ 1000 := by obtain ⟨h1, h2⟩ := fits_c hf; cases d <;> simp at h1 h2 <;> omega
    have e1 := parts_len l (bxL d x g)
    cases d
    · refine Ctr.body (args := [_, _, _]) Try.func83 rfl Try.ntmps83 Try.results83 (by simp) ?_
      refine CJ.seq ?_
      refine CJ.region ?_
      refine LJ.boxG (vs := [_, _, _, _, _]) rfl rfl (fun b1 => ?_)
      refine LJ.boxG (vs := [_, _, _, _]) rfl rfl (fun b2 => ?_)
      refine LJ.yd rfl (Yd.asS rfl) ?_
      refine LJ.nil ?_
      refine CJ.seq ?_
      refine CJ.region ?_
      refine LJ.yd rfl (Yd.mvS rfl) ?_
      refine LJ.yd rfl (Yd.loadG (us := [_, _, _, _, _]) 1 rfl rfl rfl rfl) ?_
      refine LJ.yd rfl (Yd.loadG (us := [_, _, _, _]) 2 rfl rfl rfl rfl) ?_
      refine LJ.yd rfl (Yd.build (cs := [_, _, _, _, _, _, _, _, _]) rfl) ?_
      refine LJ.op rfl (OpR.buildSlice (cs := [_, _, _, _, _, _, _, _, _]) rfl rfl) ?_
      rintro _ _ ⟨b3, rfl, rfl⟩
      refine LJ.op rfl (OpR.apT (enc := encPt) [⟨_, _, _, _, _, _, _, g, .c false x l r⟩] 0 3 rfl rfl rfl (by first | rfl | omega | (simp; done) | (simp; omega) | (simp [upN_len]; omega) | (simp [idxBy_len]; omega) | (simp [marks_len]; omega) | (simp [upN_len]; done) | (simp [idxBy_len]; done) | (simp [marks_len]; done) | (simp at *; omega)) rfl rfl rfl rfl rfl (by first | rfl | omega | (simp; done) | (simp; omega) | (simp [upN_len]; omega) | (simp [idxBy_len]; omega) | (simp [marks_len]; omega) | (simp [upN_len]; done) | (simp [idxBy_len]; done) | (simp [marks_len]; done) | (simp at *; omega))) ?_
      rintro _ _ ⟨ra14, rc14, rfl, rfl⟩
      refine LJ.norm [_, _, _, _] rfl ?_
      refine LJ.yd rfl (Yd.asS rfl) ?_
      refine LJ.nil ?_
      refine CJ.seq ?_
      refine CJ.seq ?_
      refine CJ.region ?_
      refine LJ.yd rfl (Yd.loadG (us := [_, _, _, _, _]) 1 rfl rfl rfl rfl) ?_
      refine LJ.callV rfl (fun k hk dk => isCutI_d _ false _ _ _ _) ?_
      refine LJ.nil ?_
      refine CJ.condT rfl ?_
      refine CJ.seq ?_
      refine CJ.region ?_
      refine LJ.yd rfl (Yd.loadG (us := [_, _, _, _, _]) 1 rfl rfl rfl rfl) ?_
      refine LJ.yd rfl (Yd.loadG (us := [_, _, _, _]) 2 rfl rfl rfl rfl) ?_
      refine LJ.callV rfl (fun k hk dk => splitBox_ok (o := 3) (by omega) (by omega) (by omega) (by omega) (by omega) (by omega) (by omega) (by omega) (by omega) hx2) ?_
      refine LJ.yd rfl (Yd.mvU rfl) ?_
      refine LJ.yd rfl (Yd.extract rfl rfl) ?_
      refine LJ.yd rfl (Yd.extract rfl rfl) ?_
      refine LJ.alloc ([_, _, _, _] : List Value) rfl rfl (fun b4 => ?_)
      refine LJ.alloc ([_, _, _, _] : List Value) rfl rfl (fun b5 => ?_)
      refine LJ.store (v := .agg #[_, _, _, _]) (us := [_, _, _, _]) 4 rfl rfl rfl rfl rfl rfl rfl rfl ?_
      refine LJ.store (v := .agg #[_, _, _, _]) (us := [_, _, _, _]) 5 rfl rfl rfl rfl rfl rfl rfl rfl ?_
      refine LJ.nil ?_
      refine CJ.seq ?_
      refine CJ.regionD [1, 2, 3, 4, 5] [0] (by kernel_rfl) rfl ?_
      refine DJ.norm [_, _, _, _, _] [_] rfl rfl ?_
      refine DJ.yd 0 rfl (by kernel_rfl) (by kernel_rfl) (by kernel_rfl) rfl rfl (Yd.mvS rfl) ?_
      refine DJ.yd 1 rfl (by kernel_rfl) (by kernel_rfl) (by kernel_rfl) rfl rfl (Yd.fieldAddr rfl) ?_
      refine DJ.yd 2 rfl (by kernel_rfl) (by kernel_rfl) (by kernel_rfl) rfl rfl (Yd.loadC 0 rfl rfl rfl) ?_
      refine DJ.yd 3 rfl (by kernel_rfl) (by kernel_rfl) (by kernel_rfl) rfl rfl (Yd.indexAddr rfl rfl (by omega) (by simp)) ?_
      refine DJ.yd 4 rfl (by kernel_rfl) (by kernel_rfl) (by kernel_rfl) rfl rfl (Yd.loadRow (i := 0) hrow.up rfl (by simp) rfl hl.len) ?_
      refine DJ.yd 5 rfl (by kernel_rfl) (by kernel_rfl) (by kernel_rfl) rfl rfl (Yd.loadG (us := [_, _, _, _]) 3 rfl rfl rfl rfl) ?_
      refine DJ.one (i := 6) (by kernel_rfl) ?_
      refine DO.call (pickF _ []) (pickF _ [0]) rfl rfl rfl (perm_pickF _ [] [0] rfl) (fun k0 hk0 dk0 k hk dk => ihl _ _ (bxL false x g) _ _ _ _ ps rfl (by simp; omega) g1 f1 hl.up) ?_
      rintro _ _ ⟨a1, c1, L1, K1, rfl, rfl, hL1, hK1, hP1⟩
      have hk1 := congrArg List.length hK1
      have hl1 := congrArg List.length hL1
      simp only [List.length_map, List.length_append, List.length_singleton] at hk1 hl1
      refine DJ.norm [_, _, _, _, _] [_] rfl rfl ?_
      refine DJ.yd 7 rfl (by kernel_rfl) (by kernel_rfl) (by kernel_rfl) rfl rfl (Yd.asS rfl) ?_
      refine DJ.done (by kernel_rfl) ?_
      refine CJ.regionD [0, 1, 2, 3, 4] [5] (by kernel_rfl) rfl ?_
      refine DJ.norm [_, _, _, _, _] [_] rfl rfl ?_
      refine DJ.yd 0 rfl (by kernel_rfl) (by kernel_rfl) (by kernel_rfl) rfl rfl (Yd.mvS rfl) ?_
      refine DJ.yd 1 rfl (by kernel_rfl) (by kernel_rfl) (by kernel_rfl) rfl rfl (Yd.fieldAddr rfl) ?_
      refine DJ.yd 2 rfl (by kernel_rfl) (by kernel_rfl) (by kernel_rfl) rfl rfl (Yd.loadC 0 rfl rfl rfl) ?_
      refine DJ.yd 3 rfl (by kernel_rfl) (by kernel_rfl) (by kernel_rfl) rfl rfl (Yd.indexAddr rfl rfl (by omega) (by simp)) ?_
      refine DJ.yd 4 rfl (by kernel_rfl) (by kernel_rfl) (by kernel_rfl) rfl rfl (Yd.loadRow (i := 1) hrow.up rfl (by simp) rfl hr.len) ?_
      refine DJ.yd 5 rfl (by kernel_rfl) (by kernel_rfl) (by kernel_rfl) rfl rfl (Yd.loadG (us := [_, _, _, _]) 4 rfl rfl rfl rfl) ?_
      refine DJ.one (i := 6) (by kernel_rfl) ?_
      refine DO.call (pickF _ []) (pickF _ [0]) rfl rfl rfl (perm_pickF _ [] [0] rfl) (fun k0 hk0 dk0 k hk dk => ihr _ _ (bxR false x g) _ _ _ _ ps rfl (by omega) g2 f2 hr.up) ?_
      rintro _ _ ⟨a2, c2, L2, K2, rfl, rfl, hL2, hK2, hP2⟩
      refine DJ.norm [_, _, _, _, _] [_] rfl rfl ?_
      refine DJ.yd 7 rfl (by kernel_rfl) (by kernel_rfl) (by kernel_rfl) rfl rfl (Yd.asS rfl) ?_
      refine DJ.done (by kernel_rfl) ?_
      refine CJ.seq ?_
      refine CJ.region ?_
      refine LJ.yd rfl (Yd.mvS rfl) ?_
      refine LJ.yd rfl (Yd.asS rfl) ?_
      refine LJ.nil ?_
      refine CJ.ret ?_
      refine Fin.R [_] (Res.one (ResV.tmp (v := .slice _ _ _) rfl)) ⟨_, _, L2, [⟨3, x, 0, false, some ⟨kb, ko, none⟩, 2, kc, g, .c false x l r⟩] ++ (K1 ++ K2), rfl, rfl, ?_, ?_, ?_⟩ (Ent.pick [5] [0, 1, 2, 3, 4] rfl)
      · rw [hL2, hL1]; simp
      · simp [BT.parts, hK1, hK2]
      · intro u hu
        rcases List.mem_append.1 hu with hu | hu
        · cases List.mem_singleton.1 hu; rfl
        · rcases List.mem_append.1 hu with hu | hu
          · exact hP1 u hu
          · exact hP2 u hu
    · refine Ctr.body (args := [_, _, _]) Try.func83 rfl Try.ntmps83 Try.results83 (by simp) ?_
      refine CJ.seq ?_
      refine CJ.region ?_
      refine LJ.boxG (vs := [_, _, _, _, _]) rfl rfl (fun b1 => ?_)
      refine LJ.boxG (vs := [_, _, _, _]) rfl rfl (fun b2 => ?_)
      refine LJ.yd rfl (Yd.asS rfl) ?_
      refine LJ.nil ?_
      refine CJ.seq ?_
      refine CJ.region ?_
      refine LJ.yd rfl (Yd.mvS rfl) ?_
      refine LJ.yd rfl (Yd.loadG (us := [_, _, _, _, _]) 1 rfl rfl rfl rfl) ?_
      refine LJ.yd rfl (Yd.loadG (us := [_, _, _, _]) 2 rfl rfl rfl rfl) ?_
      refine LJ.yd rfl (Yd.build (cs := [_, _, _, _, _, _, _, _, _]) rfl) ?_
      refine LJ.op rfl (OpR.buildSlice (cs := [_, _, _, _, _, _, _, _, _]) rfl rfl) ?_
      rintro _ _ ⟨b3, rfl, rfl⟩
      refine LJ.op rfl (OpR.apT (enc := encPt) [⟨_, _, _, _, _, _, _, g, .c true x l r⟩] 0 3 rfl rfl rfl (by first | rfl | omega | (simp; done) | (simp; omega) | (simp [upN_len]; omega) | (simp [idxBy_len]; omega) | (simp [marks_len]; omega) | (simp [upN_len]; done) | (simp [idxBy_len]; done) | (simp [marks_len]; done) | (simp at *; omega)) rfl rfl rfl rfl rfl (by first | rfl | omega | (simp; done) | (simp; omega) | (simp [upN_len]; omega) | (simp [idxBy_len]; omega) | (simp [marks_len]; omega) | (simp [upN_len]; done) | (simp [idxBy_len]; done) | (simp [marks_len]; done) | (simp at *; omega))) ?_
      rintro _ _ ⟨ra14, rc14, rfl, rfl⟩
      refine LJ.norm [_, _, _, _] rfl ?_
      refine LJ.yd rfl (Yd.asS rfl) ?_
      refine LJ.nil ?_
      refine CJ.seq ?_
      refine CJ.seq ?_
      refine CJ.region ?_
      refine LJ.yd rfl (Yd.loadG (us := [_, _, _, _, _]) 1 rfl rfl rfl rfl) ?_
      refine LJ.callV rfl (fun k hk dk => isCutI_d _ true _ _ _ _) ?_
      refine LJ.nil ?_
      refine CJ.condT rfl ?_
      refine CJ.seq ?_
      refine CJ.region ?_
      refine LJ.yd rfl (Yd.loadG (us := [_, _, _, _, _]) 1 rfl rfl rfl rfl) ?_
      refine LJ.yd rfl (Yd.loadG (us := [_, _, _, _]) 2 rfl rfl rfl rfl) ?_
      refine LJ.callV rfl (fun k hk dk => splitBox_ok (o := 2) (by omega) (by omega) (by omega) (by omega) (by omega) (by omega) (by omega) (by omega) (by omega) hx2) ?_
      refine LJ.yd rfl (Yd.mvU rfl) ?_
      refine LJ.yd rfl (Yd.extract rfl rfl) ?_
      refine LJ.yd rfl (Yd.extract rfl rfl) ?_
      refine LJ.alloc ([_, _, _, _] : List Value) rfl rfl (fun b4 => ?_)
      refine LJ.alloc ([_, _, _, _] : List Value) rfl rfl (fun b5 => ?_)
      refine LJ.store (v := .agg #[_, _, _, _]) (us := [_, _, _, _]) 4 rfl rfl rfl rfl rfl rfl rfl rfl ?_
      refine LJ.store (v := .agg #[_, _, _, _]) (us := [_, _, _, _]) 5 rfl rfl rfl rfl rfl rfl rfl rfl ?_
      refine LJ.nil ?_
      refine CJ.seq ?_
      refine CJ.regionD [1, 2, 3, 4, 5] [0] (by kernel_rfl) rfl ?_
      refine DJ.norm [_, _, _, _, _] [_] rfl rfl ?_
      refine DJ.yd 0 rfl (by kernel_rfl) (by kernel_rfl) (by kernel_rfl) rfl rfl (Yd.mvS rfl) ?_
      refine DJ.yd 1 rfl (by kernel_rfl) (by kernel_rfl) (by kernel_rfl) rfl rfl (Yd.fieldAddr rfl) ?_
      refine DJ.yd 2 rfl (by kernel_rfl) (by kernel_rfl) (by kernel_rfl) rfl rfl (Yd.loadC 0 rfl rfl rfl) ?_
      refine DJ.yd 3 rfl (by kernel_rfl) (by kernel_rfl) (by kernel_rfl) rfl rfl (Yd.indexAddr rfl rfl (by omega) (by simp)) ?_
      refine DJ.yd 4 rfl (by kernel_rfl) (by kernel_rfl) (by kernel_rfl) rfl rfl (Yd.loadRow (i := 0) hrow.up rfl (by simp) rfl hl.len) ?_
      refine DJ.yd 5 rfl (by kernel_rfl) (by kernel_rfl) (by kernel_rfl) rfl rfl (Yd.loadG (us := [_, _, _, _]) 3 rfl rfl rfl rfl) ?_
      refine DJ.one (i := 6) (by kernel_rfl) ?_
      refine DO.call (pickF _ []) (pickF _ [0]) rfl rfl rfl (perm_pickF _ [] [0] rfl) (fun k0 hk0 dk0 k hk dk => ihl _ _ (bxL true x g) _ _ _ _ ps rfl (by simp; omega) g1 f1 hl.up) ?_
      rintro _ _ ⟨a1, c1, L1, K1, rfl, rfl, hL1, hK1, hP1⟩
      have hk1 := congrArg List.length hK1
      have hl1 := congrArg List.length hL1
      simp only [List.length_map, List.length_append, List.length_singleton] at hk1 hl1
      refine DJ.norm [_, _, _, _, _] [_] rfl rfl ?_
      refine DJ.yd 7 rfl (by kernel_rfl) (by kernel_rfl) (by kernel_rfl) rfl rfl (Yd.asS rfl) ?_
      refine DJ.done (by kernel_rfl) ?_
      refine CJ.regionD [0, 1, 2, 3, 4] [5] (by kernel_rfl) rfl ?_
      refine DJ.norm [_, _, _, _, _] [_] rfl rfl ?_
      refine DJ.yd 0 rfl (by kernel_rfl) (by kernel_rfl) (by kernel_rfl) rfl rfl (Yd.mvS rfl) ?_
      refine DJ.yd 1 rfl (by kernel_rfl) (by kernel_rfl) (by kernel_rfl) rfl rfl (Yd.fieldAddr rfl) ?_
      refine DJ.yd 2 rfl (by kernel_rfl) (by kernel_rfl) (by kernel_rfl) rfl rfl (Yd.loadC 0 rfl rfl rfl) ?_
      refine DJ.yd 3 rfl (by kernel_rfl) (by kernel_rfl) (by kernel_rfl) rfl rfl (Yd.indexAddr rfl rfl (by omega) (by simp)) ?_
      refine DJ.yd 4 rfl (by kernel_rfl) (by kernel_rfl) (by kernel_rfl) rfl rfl (Yd.loadRow (i := 1) hrow.up rfl (by simp) rfl hr.len) ?_
      refine DJ.yd 5 rfl (by kernel_rfl) (by kernel_rfl) (by kernel_rfl) rfl rfl (Yd.loadG (us := [_, _, _, _]) 4 rfl rfl rfl rfl) ?_
      refine DJ.one (i := 6) (by kernel_rfl) ?_
      refine DO.call (pickF _ []) (pickF _ [0]) rfl rfl rfl (perm_pickF _ [] [0] rfl) (fun k0 hk0 dk0 k hk dk => ihr _ _ (bxR true x g) _ _ _ _ ps rfl (by omega) g2 f2 hr.up) ?_
      rintro _ _ ⟨a2, c2, L2, K2, rfl, rfl, hL2, hK2, hP2⟩
      refine DJ.norm [_, _, _, _, _] [_] rfl rfl ?_
      refine DJ.yd 7 rfl (by kernel_rfl) (by kernel_rfl) (by kernel_rfl) rfl rfl (Yd.asS rfl) ?_
      refine DJ.done (by kernel_rfl) ?_
      refine CJ.seq ?_
      refine CJ.region ?_
      refine LJ.yd rfl (Yd.mvS rfl) ?_
      refine LJ.yd rfl (Yd.asS rfl) ?_
      refine LJ.nil ?_
      refine CJ.ret ?_
      refine Fin.R [_] (Res.one (ResV.tmp (v := .slice _ _ _) rfl)) ⟨_, _, L2, [⟨2, x, 0, false, some ⟨kb, ko, none⟩, 2, kc, g, .c true x l r⟩] ++ (K1 ++ K2), rfl, rfl, ?_, ?_, ?_⟩ (Ent.pick [5] [0, 1, 2, 3, 4] rfl)
      · rw [hL2, hL1]; simp
      · simp [BT.parts, hK1, hK2]
      · intro u hu
        rcases List.mem_append.1 hu with hu | hu
        · cases List.mem_singleton.1 hu; rfl
        · rcases List.mem_append.1 hu with hu | hu
          · exact hP1 u hu
          · exact hP2 u hu
end Go.Proofs.Ytlpjienaennmaaa
