/-
  The law on pieces put into a stock.
-/
import Derived.Test.YtnfnidplhkfamaaAP2
namespace Go.Proofs.Ytnfnidplhkfamaa
open Go
set_option maxRecDepth 20000
set_option maxHeartbeats 1000000

section
variable {P : Program} {T : TypeId} {ρ : Env} {A : Amb} {fs : List HProp}
theorem Yd.remG {X Y : TypeId} {x y : Operand} {k : IntKind} {a b : Int} (hx : ev ρ x = .int k a) (hy : ev ρ y = .int k b) (hb : b ≠ 0) : Yd P (.binOp .rem X x y Y) T ρ A fs (.int k (a.tmod b)) := fun w _ => by
  rw [run_bin hx hy]
  simp [binOp, Op.intDiv, hb]
theorem Yd.neqBox {Y : TypeId} {x y : Operand} {a b : Box} (hx : ev ρ x = .agg #[vI a.X, vI a.Y, vI a.W, vI a.H]) (hy : ev ρ y = .agg #[vI b.X, vI b.Y, vI b.W, vI b.H]) :
    Yd Try.prog (.binOp .neq 33 x y Y) T ρ A fs (.bool (!decide (a = b))) := fun w _ => by
  have e1 := run_eqGuard_agg (P := Try.prog) w .neq 33 x y #[vI a.X, vI a.Y, vI a.W, vI a.H] #[vI b.X, vI b.Y, vI b.W, vI b.H] boxGrd
  have e2 := run_neq_struct (P := Try.prog) w 33 #[vI a.X, vI a.Y, vI a.W, vI a.H] #[vI b.X, vI b.Y, vI b.W, vI b.H]
  have u3 := Try.underlying3
  have a3 := Try.isAgg3
  simp only [dummy, execOp, hx, hy, Sem.run_bind, Result.andThen_ok, e1, e2]
  rw [show (10000 : Nat) = 9999 + 1 from rfl, run_equalIn_agg w 9999 _ _ _ boxUnd boxHeld]
  simp only [Program.fieldsOf, Try.underlying33]
  obtain ⟨aX, aY, aW, aH⟩ := a
  obtain ⟨bX, bY, bW, bH⟩ := b
  have q := fun (a b : Int) w => run_equalIn_int (P := Try.prog) w 9998 3 .i64 .i64 a b u3
  simp [Op.eqFields, part, a3, q, Sem.run_bind]
  by_cases h1 : aX = bX <;> by_cases h2 : aY = bY <;> by_cases h3 : aW = bW <;> by_cases h4 : aH = bH <;> simp [h1, h2, h3, h4]
end
theorem equalBoxes_T {A : Amb} {v w : Value} {l : List Box} (hl : RdL Box.enc 4 A.h v l) (hl2 : RdL Box.enc 4 A.h w l) : Ctr Try.prog 65 #[v, w] A [] (Val (.bool true)) := by
  obtain ⟨la, lc, rfl, hlb, hl⟩ := hl.un
  obtain ⟨la2, lc2, rfl, hlb2, hl2⟩ := hl2.un
  refine Ctr.body (args := [_, _]) Try.func65 rfl Try.ntmps65 Try.results65 (by simp) ?_
  refine CJ.seq ?_
  refine CJ.region ?_
  refine LJ.yd rfl (Yd.asB rfl) ?_
  refine LJ.nil ?_
  refine CJ.seq ?_
  refine CJ.seq ?_
  refine CJ.region ?_
  refine LJ.yd rfl (Yd.mvS rfl) ?_
  refine LJ.yd rfl (Yd.len rfl) ?_
  refine LJ.yd rfl (Yd.mvS rfl) ?_
  refine LJ.yd rfl (Yd.len rfl) ?_
  refine LJ.splitN rfl (Yd.neq rfl rfl) (fun h10 => ?_) (fun h10 => ?_)
  · exfalso; omega
  · refine LJ.nil ?_
    refine CJ.condF rfl ?_
    refine CJ.skip ?_
    refine CJ.seq ?_
    refine CJ.seq ?_
    refine CJ.region ?_
    refine LJ.yd rfl (Yd.asI rfl) ?_
    refine LJ.nil ?_
    refine CJ.block ?_
    refine CJ.loopK [0, 1] Nat (fun k => k ≤ l.length) (fun k => [(5, vI k)]) (fun k => l.length - k) (0) ?_ ⟨rfl, trivial⟩ ?_
    · exact by omega
    · rintro k σ hk1
      refine CJ.seq ?_
      refine CJ.seq ?_
      refine CJ.region ?_
      refine LJ.yd rfl (Yd.mvI rfl) ?_
      refine LJ.yd rfl (Yd.mvS rfl) ?_
      refine LJ.yd rfl (Yd.len rfl) ?_
      refine LJ.splitD rfl (Yd.lss rfl rfl) (fun h14 => ?_) (fun h14 => ?_)
      · refine LJ.nil ?_
        refine CJ.condT rfl ?_
        refine CJ.skip ?_
        refine CJ.seq ?_
        refine CJ.block ?_
        refine CJ.seq ?_
        refine CJ.regionD [] [] (by kernel_rfl) rfl ?_
        refine DJ.norm [] [] rfl rfl ?_
        refine DJ.yd 0 rfl (by kernel_rfl) (by kernel_rfl) (by kernel_rfl) rfl rfl (Yd.mvS rfl) ?_
        refine DJ.yd 1 rfl (by kernel_rfl) (by kernel_rfl) (by kernel_rfl) rfl rfl (Yd.mvI rfl) ?_
        refine DJ.idxA 2 rfl (by kernel_rfl) (by kernel_rfl) (by kernel_rfl) rfl rfl hl rfl rfl (by omega) (by first | rfl | omega | (simp; done) | (simp; omega) | (simp [upN_len]; omega) | (simp [idxBy_len]; omega) | (simp [marks_len]; omega) | (simp [upN_len]; done) | (simp [idxBy_len]; done) | (simp [marks_len]; done) | (simp at *; omega)) (fun ib19 io19 ia19 ir19 => ?_)
        refine DJ.lgA 3 rfl (by kernel_rfl) (by kernel_rfl) (by kernel_rfl) rfl rfl (enc := Box.enc) (fun u => [vI u.X, vI u.Y, vI u.W, vI u.H]) (fun _ => rfl) (fun _ => rfl) ir19 rfl rfl (by first | rfl | omega | (simp; done) | (simp; omega) | (simp [upN_len]; omega) | (simp [idxBy_len]; omega) | (simp [marks_len]; omega) | (simp [upN_len]; done) | (simp [idxBy_len]; done) | (simp [marks_len]; done) | (simp at *; omega)) (fun u20 hu20 => ?_)
        try simp only [Int.toNat_natCast] at hu20
        refine DJ.yd 4 rfl (by kernel_rfl) (by kernel_rfl) (by kernel_rfl) rfl rfl (Yd.mvS rfl) ?_
        refine DJ.yd 5 rfl (by kernel_rfl) (by kernel_rfl) (by kernel_rfl) rfl rfl (Yd.mvI rfl) ?_
        refine DJ.idxA 6 rfl (by kernel_rfl) (by kernel_rfl) (by kernel_rfl) rfl rfl hl2 rfl rfl (by omega) (by first | rfl | omega | (simp; done) | (simp; omega) | (simp [upN_len]; omega) | (simp [idxBy_len]; omega) | (simp [marks_len]; omega) | (simp [upN_len]; done) | (simp [idxBy_len]; done) | (simp [marks_len]; done) | (simp at *; omega)) (fun ib23 io23 ia23 ir23 => ?_)
        refine DJ.lgA 7 rfl (by kernel_rfl) (by kernel_rfl) (by kernel_rfl) rfl rfl (enc := Box.enc) (fun u => [vI u.X, vI u.Y, vI u.W, vI u.H]) (fun _ => rfl) (fun _ => rfl) ir23 rfl rfl (by first | rfl | omega | (simp; done) | (simp; omega) | (simp [upN_len]; omega) | (simp [idxBy_len]; omega) | (simp [marks_len]; omega) | (simp [upN_len]; done) | (simp [idxBy_len]; done) | (simp [marks_len]; done) | (simp at *; omega)) (fun u24 hu24 => ?_)
        try simp only [Int.toNat_natCast] at hu24
        obtain rfl : u20 = u24 := by rw [hu20] at hu24; exact Option.some.inj hu24
        refine DJ.yd 8 rfl (by kernel_rfl) (by kernel_rfl) (by kernel_rfl) rfl rfl (Yd.cmpNF (Yd.neqBox (a := u20) (b := u20) rfl rfl) rfl) ?_
        refine DJ.done (by kernel_rfl) ?_
        refine CJ.condF rfl ?_
        refine CJ.skip ?_
        refine CJ.region ?_
        refine LJ.yd rfl (Yd.mvI rfl) ?_
        refine LJ.yd rfl (Yd.add rfl rfl (by unfold I64; omega)) ?_
        refine LJ.yd rfl (Yd.asI rfl) ?_
        refine LJ.nil ?_
        refine ⟨(k + 1), ?_, ⟨rfl, rfl, trivial⟩, ⟨rfl, trivial⟩, Ent.refl _, ?_⟩
        · omega
        · first | omega | (dsimp only; omega) | (simp only []; omega)
      · refine LJ.nil ?_
        refine CJ.condF rfl ?_
        refine CJ.exit ?_
        refine CJ.seq ?_
        refine CJ.region ?_
        refine LJ.yd rfl (Yd.asB rfl) ?_
        refine LJ.nil ?_
        refine CJ.ret ?_
        refine Fin.V (Res.one (ResV.tmp (v := .bool true) rfl)) ?_
        rfl
theorem equalPiece_T {A : Amb} {p q : Piece} {v w : Value} (e : q = p) (hl : RdL Box.enc 4 A.h v p.fl) (hl2 : RdL Box.enc 4 A.h w q.fl) : Ctr Try.prog 25 #[.agg #[vI p.l, vI p.w, vI p.h, v], .agg #[vI q.l, vI q.w, vI q.h, w]] A [] (Val (.bool true)) := by
  subst e
  obtain ⟨la, lc, rfl, hlb, hl⟩ := hl.un
  obtain ⟨la2, lc2, rfl, hlb2, hl2⟩ := hl2.un
  refine Ctr.body (args := [_, _]) Try.func25 rfl Try.ntmps25 Try.results25 (by simp) ?_
  refine CJ.seq ?_
  refine CJ.region ?_
  refine LJ.boxG (vs := [_, _, _, _]) rfl rfl (fun b1 => ?_)
  refine LJ.boxG (vs := [_, _, _, _]) rfl rfl (fun b2 => ?_)
  refine LJ.yd rfl (Yd.asB rfl) ?_
  refine LJ.nil ?_
  refine CJ.seq ?_
  refine CJ.region ?_
  refine LJ.yd rfl (Yd.fieldAddr rfl) ?_
  refine LJ.yd rfl (Yd.loadC 0 rfl rfl rfl) ?_
  refine LJ.yd rfl (Yd.fieldAddr rfl) ?_
  refine LJ.yd rfl (Yd.loadC 1 rfl rfl rfl) ?_
  refine LJ.yd rfl (Yd.cmpT (Yd.eql rfl rfl) rfl) ?_
  refine LJ.yd rfl (Yd.mvB rfl) ?_
  refine LJ.gT rfl ?_
  refine LJ.yd rfl (Yd.fieldAddr rfl) ?_
  refine LJ.gT rfl ?_
  refine LJ.yd rfl (Yd.loadC 0 rfl rfl rfl) ?_
  refine LJ.gT rfl ?_
  refine LJ.yd rfl (Yd.fieldAddr rfl) ?_
  refine LJ.gT rfl ?_
  refine LJ.yd rfl (Yd.loadC 1 rfl rfl rfl) ?_
  refine LJ.gT rfl ?_
  refine LJ.yd rfl (Yd.cmpT (Yd.eql rfl rfl) rfl) ?_
  refine LJ.yd rfl (Yd.pickTB rfl rfl) ?_
  refine LJ.yd rfl (Yd.mvB rfl) ?_
  refine LJ.gT rfl ?_
  refine LJ.yd rfl (Yd.fieldAddr rfl) ?_
  refine LJ.gT rfl ?_
  refine LJ.yd rfl (Yd.loadC 0 rfl rfl rfl) ?_
  refine LJ.gT rfl ?_
  refine LJ.yd rfl (Yd.fieldAddr rfl) ?_
  refine LJ.gT rfl ?_
  refine LJ.yd rfl (Yd.loadC 1 rfl rfl rfl) ?_
  refine LJ.gT rfl ?_
  refine LJ.yd rfl (Yd.cmpT (Yd.eql rfl rfl) rfl) ?_
  refine LJ.yd rfl (Yd.pickTB rfl rfl) ?_
  refine LJ.yd rfl (Yd.mvB rfl) ?_
  refine LJ.gT rfl ?_
  refine LJ.yd rfl (Yd.fieldAddr rfl) ?_
  refine LJ.gT rfl ?_
  refine LJ.yd rfl (Yd.loadC 0 rfl rfl rfl) ?_
  refine LJ.gT rfl ?_
  refine LJ.yd rfl (Yd.fieldAddr rfl) ?_
  refine LJ.gT rfl ?_
  refine LJ.yd rfl (Yd.loadC 1 rfl rfl rfl) ?_
  refine LJ.gT rfl ?_
  refine LJ.callV rfl (fun k hk dk => equalBoxes_T hl.up hl2.up) ?_
  refine LJ.yd rfl (Yd.pickTB rfl rfl) ?_
  refine LJ.yd rfl (Yd.asB rfl) ?_
  refine LJ.nil ?_
  refine CJ.ret ?_
  refine Fin.V (Res.one (ResV.tmp (v := .bool true) rfl)) ?_
  rfl
theorem equalStock_T {A : Amb} {v w : Value} {Y Z : List Pc} (hl : RdL encQ 4 A.h v Y) (hl2 : RdL encQ 4 A.h w Z) (hx : Fls A.h Y) (hx2 : Fls A.h Z) (e : psX Y = psX Z) : Ctr Try.prog 23 #[v, w] A [] (Val (.bool true)) := by
  obtain ⟨la, lc, rfl, hlb, hl⟩ := hl.un
  obtain ⟨la2, lc2, rfl, hlb2, hl2⟩ := hl2.un
  have el : Y.length = Z.length := by simpa using congrArg List.length e
  refine Ctr.body (args := [_, _]) Try.func23 rfl Try.ntmps23 Try.results23 (by simp) ?_
  refine CJ.seq ?_
  refine CJ.region ?_
  refine LJ.yd rfl (Yd.asB rfl) ?_
  refine LJ.nil ?_
  refine CJ.seq ?_
  refine CJ.seq ?_
  refine CJ.region ?_
  refine LJ.yd rfl (Yd.mvS rfl) ?_
  refine LJ.yd rfl (Yd.len rfl) ?_
  refine LJ.yd rfl (Yd.mvS rfl) ?_
  refine LJ.yd rfl (Yd.len rfl) ?_
  refine LJ.splitN rfl (Yd.neq rfl rfl) (fun h10 => ?_) (fun h10 => ?_)
  · exfalso; omega
  · refine LJ.nil ?_
    refine CJ.condF rfl ?_
    refine CJ.skip ?_
    refine CJ.seq ?_
    refine CJ.seq ?_
    refine CJ.region ?_
    refine LJ.yd rfl (Yd.asI rfl) ?_
    refine LJ.nil ?_
    refine CJ.block ?_
    refine CJ.loopK [0, 1] Nat (fun k => k ≤ Y.length) (fun k => [(5, vI k)]) (fun k => Y.length - k) (0) ?_ ⟨rfl, trivial⟩ ?_
    · exact by omega
    · rintro k σ hk1
      refine CJ.seq ?_
      refine CJ.seq ?_
      refine CJ.region ?_
      refine LJ.yd rfl (Yd.mvI rfl) ?_
      refine LJ.yd rfl (Yd.mvS rfl) ?_
      refine LJ.yd rfl (Yd.len rfl) ?_
      refine LJ.splitD rfl (Yd.lss rfl rfl) (fun h14 => ?_) (fun h14 => ?_)
      · refine LJ.nil ?_
        refine CJ.condT rfl ?_
        refine CJ.skip ?_
        refine CJ.seq ?_
        refine CJ.block ?_
        refine CJ.seq ?_
        refine CJ.regionD [] [] (by kernel_rfl) rfl ?_
        refine DJ.norm [] [] rfl rfl ?_
        refine DJ.yd 0 rfl (by kernel_rfl) (by kernel_rfl) (by kernel_rfl) rfl rfl (Yd.mvS rfl) ?_
        refine DJ.yd 1 rfl (by kernel_rfl) (by kernel_rfl) (by kernel_rfl) rfl rfl (Yd.mvI rfl) ?_
        refine DJ.idxA 2 rfl (by kernel_rfl) (by kernel_rfl) (by kernel_rfl) rfl rfl hl rfl rfl (by omega) (by first | rfl | omega | (simp; done) | (simp; omega) | (simp [upN_len]; omega) | (simp [idxBy_len]; omega) | (simp [marks_len]; omega) | (simp [upN_len]; done) | (simp [idxBy_len]; done) | (simp [marks_len]; done) | (simp at *; omega)) (fun ib19 io19 ia19 ir19 => ?_)
        refine DJ.lgA 3 rfl (by kernel_rfl) (by kernel_rfl) (by kernel_rfl) rfl rfl (enc := encQ) (fun u => [vI u.p.l, vI u.p.w, vI u.p.h, .slice u.a u.p.fl.length u.c]) (fun _ => rfl) (fun _ => rfl) ir19 rfl rfl (by first | rfl | omega | (simp; done) | (simp; omega) | (simp [upN_len]; omega) | (simp [idxBy_len]; omega) | (simp [marks_len]; omega) | (simp [upN_len]; done) | (simp [idxBy_len]; done) | (simp [marks_len]; done) | (simp at *; omega)) (fun u20 hu20 => ?_)
        try simp only [Int.toNat_natCast] at hu20
        refine DJ.yd 4 rfl (by kernel_rfl) (by kernel_rfl) (by kernel_rfl) rfl rfl (Yd.mvS rfl) ?_
        refine DJ.yd 5 rfl (by kernel_rfl) (by kernel_rfl) (by kernel_rfl) rfl rfl (Yd.mvI rfl) ?_
        refine DJ.idxA 6 rfl (by kernel_rfl) (by kernel_rfl) (by kernel_rfl) rfl rfl hl2 rfl rfl (by omega) (by first | rfl | omega | (simp; done) | (simp; omega) | (simp [upN_len]; omega) | (simp [idxBy_len]; omega) | (simp [marks_len]; omega) | (simp [upN_len]; done) | (simp [idxBy_len]; done) | (simp [marks_len]; done) | (simp at *; omega)) (fun ib23 io23 ia23 ir23 => ?_)
        refine DJ.lgA 7 rfl (by kernel_rfl) (by kernel_rfl) (by kernel_rfl) rfl rfl (enc := encQ) (fun u => [vI u.p.l, vI u.p.w, vI u.p.h, .slice u.a u.p.fl.length u.c]) (fun _ => rfl) (fun _ => rfl) ir23 rfl rfl (by first | rfl | omega | (simp; done) | (simp; omega) | (simp [upN_len]; omega) | (simp [idxBy_len]; omega) | (simp [marks_len]; omega) | (simp [upN_len]; done) | (simp [idxBy_len]; done) | (simp [marks_len]; done) | (simp at *; omega)) (fun u24 hu24 => ?_)
        try simp only [Int.toNat_natCast] at hu24
        have he24 : u24.p = u20.p := by
          have h1 : (psX Y)[k]? = some u20.p := by rw [List.getElem?_map, hu20]; rfl
          have h2 : (psX Z)[k]? = some u24.p := by rw [List.getElem?_map, hu24]; rfl
          rw [e, h2] at h1
          exact Option.some.inj h1
        refine DJ.one (i := 8) (by kernel_rfl) ?_
        refine DO.callV rfl rfl rfl (fun k0 hk0 dk0 k hk dk => equalPiece_T (p := u20.p) (q := u24.p) he24 (RdRow.up (hx u20 (List.mem_of_getElem? hu20))) (RdRow.up (hx2 u24 (List.mem_of_getElem? hu24)))) ?_
        refine DJ.yd 9 rfl (by kernel_rfl) (by kernel_rfl) (by kernel_rfl) rfl rfl (Yd.not rfl) ?_
        refine DJ.done (by kernel_rfl) ?_
        refine CJ.condF rfl ?_
        refine CJ.skip ?_
        refine CJ.region ?_
        refine LJ.yd rfl (Yd.mvI rfl) ?_
        refine LJ.yd rfl (Yd.add rfl rfl (by unfold I64; omega)) ?_
        refine LJ.yd rfl (Yd.asI rfl) ?_
        refine LJ.nil ?_
        refine ⟨(k + 1), ?_, ⟨rfl, rfl, trivial⟩, ⟨rfl, trivial⟩, Ent.refl _, ?_⟩
        · omega
        · first | omega | (dsimp only; omega) | (simp only []; omega)
      · refine LJ.nil ?_
        refine CJ.condF rfl ?_
        refine CJ.exit ?_
        refine CJ.seq ?_
        refine CJ.region ?_
        refine LJ.yd rfl (Yd.asB rfl) ?_
        refine LJ.nil ?_
        refine CJ.ret ?_
        refine Fin.V (Res.one (ResV.tmp (v := .bool true) rfl)) ?_
        rfl
theorem DrawAddPiece_ok {A : Amb} {a : Option Addr} {n c : Nat} (h : Code A.h a n c) : Ctr Try.prog 20 #[.slice a n c] A []
    (fun v gs => ∃ (X : List Pc) (aa : Option Addr) (cc : Nat) (u : Pc), v = .tuple #[.slice aa X.length cc, .agg #[vI u.p.l, vI u.p.w, vI u.p.h, .slice u.a u.p.fl.length u.c]] ∧ gs = [LR encQ 31 4 aa cc X, INN rowQ X, rowQ u] ∧ X.length ≤ 10 ∧ PcB X ∧ (0 ≤ u.p.w ∧ u.p.w ≤ 201) ∧ (0 ≤ u.p.h ∧ u.p.h ≤ 201) ∧ u.p.fl.length ≤ 10) := by
  obtain ⟨hcode, hn, ha, hs⟩ := h
  refine Ctr.body (args := [_]) Try.func20 rfl Try.ntmps20 Try.results20 (by simp) ?_
  refine CJ.seq ?_
  refine CJ.region ?_
  refine LJ.yd rfl (Yd.asS rfl) ?_
  refine LJ.alloc ([_, _, _, _] : List Value) rfl rfl (fun b1 => ?_)
  refine LJ.nil ?_
  refine CJ.seq ?_
  refine CJ.region ?_
  refine LJ.yd rfl (Yd.mvS rfl) ?_
  refine LJ.call0 rfl (fun k hk dk => newReader_ok hn hcode.up ha hs) ?_
  rintro _ _ ⟨rb, n2, rfl, hn1, hn2, rfl⟩
  have hcode2 := hcode.le hn2
  refine LJ.yd rfl (Yd.asP rfl) ?_
  refine LJ.nil ?_
  refine CJ.seq ?_
  refine CJ.region ?_
  refine LJ.yd rfl (Yd.mvP rfl) ?_
  refine LJ.call (pickF _ [0]) (pickF _ [1]) rfl (perm_pickF _ [0] [1] rfl) (fun k hk dk => anyStock_ok hcode2.up (by omega) (by omega)) ?_
  rintro _ _ ⟨X, xa, xc, q2, rfl, rfl, hq3, hq4, hXl, hXb⟩
  refine LJ.norm [_, _, _, _] rfl ?_
  refine LJ.yd rfl (Yd.asS rfl) ?_
  refine LJ.nil ?_
  refine CJ.seq ?_
  refine CJ.region ?_
  refine LJ.yd rfl (Yd.mvP rfl) ?_
  refine LJ.call (pickF _ [0, 2, 3]) (pickF _ [1]) rfl (perm_pickF _ [0, 2, 3] [1] rfl) (fun k hk dk => anyPiece_ok hcode2.up (by omega) (by omega)) ?_
  rintro _ _ ⟨⟨⟨ul, uw, uh, uf⟩, ua, uc⟩, q1, rfl, rfl, hq1, hq2, hb1, hb2, hb3⟩
  dsimp only at hb1 hb2 hb3
  refine LJ.norm [_, _, _, _, _] rfl ?_
  refine LJ.alloc ([_, _, _, _] : List Value) rfl rfl (fun b2 => ?_)
  refine LJ.store (v := .agg #[_, _, _, _]) (us := [_, _, _, _]) 5 rfl rfl rfl rfl rfl rfl rfl rfl ?_
  refine LJ.nil ?_
  refine CJ.seq ?_
  refine CJ.region ?_
  refine LJ.yd rfl (Yd.mvP rfl) ?_
  refine LJ.yd rfl (Yd.fieldAddr rfl) ?_
  refine LJ.yd rfl (Yd.loadC 5 rfl rfl rfl) ?_
  refine LJ.yd rfl (Yd.fieldAddr rfl) ?_
  refine LJ.yd rfl (Yd.loadC 5 rfl rfl rfl) ?_
  refine LJ.yd rfl (Yd.remG rfl rfl (by omega)) ?_
  refine LJ.op rfl (OpR.buildSlice (cs := [_, _, _]) rfl rfl) ?_
  rintro _ _ ⟨b3, rfl, rfl⟩
  refine LJ.call (pickF _ [0, 1, 2, 4, 5, 6]) (pickF _ [3]) rfl (perm_pickF _ [0, 1, 2, 4, 5, 6] [3] rfl) (fun k hk dk => one_ok (l := [ul, ul.tmod 7, 3]) (hcode2.up) (LitAt.of (l := [ul, ul.tmod 7, 3]) hk dk 5 rfl) (by simp) (by omega) (by omega)) ?_
  rintro _ _ ⟨x20, rfl, hx20, rfl⟩
  simp only [List.mem_cons, List.not_mem_nil, or_false] at hx20
  refine LJ.norm [_, _, _, _, _, _, _] rfl ?_
  refine LJ.yd rfl (Yd.fieldAddr rfl) ?_
  refine LJ.store (v := .int _ _) (us := [_, _, _, _]) 4 rfl rfl rfl rfl rfl rfl rfl rfl ?_
  refine LJ.nil ?_
  refine CJ.seq ?_
  refine CJ.regionD [1, 2, 3, 4, 5, 6] [0] (by kernel_rfl) rfl ?_
  refine DJ.norm [_, _, _, _, _, _] [_] rfl rfl ?_
  refine DJ.yd 0 rfl (by kernel_rfl) (by kernel_rfl) (by kernel_rfl) rfl rfl (Yd.mvS rfl) ?_
  refine DJ.yd 1 rfl (by kernel_rfl) (by kernel_rfl) (by kernel_rfl) rfl rfl (Yd.loadG (us := [_, _, _, _]) 3 rfl rfl rfl rfl) ?_
  refine DJ.yd 2 rfl (by kernel_rfl) (by kernel_rfl) (by kernel_rfl) rfl rfl (Yd.asS rfl) ?_
  refine DJ.one (i := 3) (by kernel_rfl) ?_
  refine DO.store (v := .agg #[_, _, _, _]) (us := [_, _, _, _]) 0 rfl rfl rfl rfl rfl rfl rfl rfl rfl rfl ?_
  refine DJ.done (by kernel_rfl) ?_
  refine CJ.ret ?_
  exact Fin.R [_, _, _] (Res.two (ResV.tmp (v := .slice _ _ _) rfl) (ResV.cell (us := [_, _, _, _]) 6 rfl rfl rfl rfl)) ⟨X, _, _, ⟨⟨x20, uw, uh, uf⟩, ua, uc⟩, rfl, rfl, hXl, hXb, hb1, hb2, hb3⟩ (Ent.pick [0, 1, 2] [3, 4, 5, 6] rfl)
theorem big_sub {X Y : List Pc} {L : List Piece} (e : psX Y = L) (hL : ∀ p ∈ L, p ∈ psX X) (hb : ∀ u ∈ X, u.p.fl.length ≤ 2000000) : ∀ u ∈ Y, u.p.fl.length ≤ 281474976710656 := fun u hu => by
  have h1 := hL u.p (e ▸ List.mem_map_of_mem hu)
  obtain ⟨x, hx, hx2⟩ := List.mem_map.1 h1
  have := hb x hx
  rw [← hx2]; omega
theorem big_addR {X Y : List Pc} {p : Piece} (e : psX Y = addR (psX X) p) (hb : ∀ u ∈ X, u.p.fl.length ≤ 2000000) (hp : p.fl.length ≤ 2000000) : ∀ u ∈ Y, u.p.fl.length ≤ 2000000 := fun u hu => by
  unfold addR at e
  split at e
  · have h1 : u.p ∈ addL p (psX X) := e ▸ List.mem_map_of_mem hu
    rcases addL_mem.1 h1 with h2 | h2
    · rw [h2]; omega
    · obtain ⟨x, hx, hx2⟩ := List.mem_map.1 h2
      have := hb x hx
      rw [← hx2]; omega
  · have h1 : u.p ∈ ([] : List Piece) := e ▸ List.mem_map_of_mem hu
    cases h1
theorem big48 {Y : List Pc} (h : ∀ u ∈ Y, u.p.fl.length ≤ 2000000) : ∀ u ∈ Y, u.p.fl.length ≤ 281474976710656 := fun u hu => by have := h u hu; omega
theorem addR_len {X Y : List Pc} {p : Piece} (e : psX Y = addR (psX X) p) (hX : X.length ≤ 100) : Y.length ≤ 101 := by
  have := congrArg List.length e
  rw [List.length_map] at this
  unfold addR at this
  split at this
  · rw [addL_len, List.length_map] at this; omega
  · rw [List.length_nil] at this; omega
theorem StockArea_k {A : Amb} {v : Value} {X : List Pc} (h : stOk (psX X) = true) (hl : RdL encQ 4 A.h v X) (hx : Fls A.h X) : Ctr Try.prog 26 #[v] A [] (Val (vI (sumA (psX X)))) := by
  have := StockArea_ok hl hx
  rwa [if_pos h] at this
theorem FnAddPiece_ok {A : Amb} {a : Option Addr} {n c : Nat} (h : Code A.h a n c) : Ctr Try.prog 5 #[.slice a n c] A [] (Val (.bool true)) := by
  refine Ctr.body (args := [_]) Try.func5 rfl Try.ntmps5 Try.results5 (by simp) ?_
  refine CJ.seq ?_
  refine CJ.region ?_
  refine LJ.yd rfl (Yd.asB rfl) ?_
  refine LJ.nil ?_
  refine CJ.seq ?_
  refine CJ.seq ?_
  refine CJ.region ?_
  refine LJ.yd rfl (Yd.mvS rfl) ?_
  refine LJ.yd rfl (Yd.len rfl) ?_
  refine LJ.splitD rfl (Yd.gtr rfl rfl) (fun h14 => ?_) (fun h14 => ?_)
  · refine LJ.nil ?_
    refine CJ.condT rfl ?_
    refine CJ.seq ?_
    refine CJ.region ?_
    refine LJ.yd rfl (Yd.asB rfl) ?_
    refine LJ.nil ?_
    refine CJ.ret ?_
    refine Fin.V (Res.one (ResV.tmp (v := .bool true) rfl)) ?_
    rfl
  · refine LJ.nil ?_
    refine CJ.condF rfl ?_
    refine CJ.skip ?_
    refine CJ.seq ?_
    refine CJ.region ?_
    refine LJ.yd rfl (Yd.mvS rfl) ?_
    refine LJ.call0 rfl (fun k hk dk => DrawAddPiece_ok h.up) ?_
    rintro _ _ ⟨X, xa, xc, ⟨p, pa, pc⟩, rfl, rfl, hXl, hXb, hpw, hph, hpl⟩
    dsimp only at hpw hph hpl
    refine LJ.norm [_, _, _] rfl ?_
    refine LJ.yd rfl (Yd.mvU rfl) ?_
    refine LJ.yd rfl (Yd.extract rfl rfl) ?_
    refine LJ.yd rfl (Yd.extract rfl rfl) ?_
    refine LJ.alloc ([_, _, _, _] : List Value) rfl rfl (fun b1 => ?_)
    refine LJ.yd rfl (Yd.asS rfl) ?_
    refine LJ.store (v := .agg #[_, _, _, _]) (us := [_, _, _, _]) 3 rfl rfl rfl rfl rfl rfl rfl rfl ?_
    refine LJ.nil ?_
    refine CJ.seq ?_
    refine CJ.amb (perm_pickF _ [0] [1, 2, 3] rfl) (fun mlx wlx dlx => ?_)
    refine CJ.norm [_, _, _] rfl ?_
    have hlx := Row.toA (enc := encQ) wlx dlx (by first | rfl | omega | (simp; done) | (simp; omega) | (simp [upN_len]; omega) | (simp [idxBy_len]; omega) | (simp [marks_len]; omega) | (simp [upN_len]; done) | (simp [idxBy_len]; done) | (simp [marks_len]; done) | (simp at *; omega))
    refine CJ.amb (perm_pickF _ [1] [0, 2] rfl) (fun mlf wlf dlf => ?_)
    refine CJ.norm [_, _] rfl ?_
    have hlf := Row.toA (enc := Box.enc) wlf dlf (by first | rfl | omega | (simp; done) | (simp; omega) | (simp [upN_len]; omega) | (simp [idxBy_len]; omega) | (simp [marks_len]; omega) | (simp [upN_len]; done) | (simp [idxBy_len]; done) | (simp [marks_len]; done) | (simp at *; omega))
    refine CJ.amb (perm_pickF _ [0] [1] rfl) (fun m9 h9 d9 => ?_)
    refine CJ.norm [_] rfl ?_
    have hx9 : Fls (((A.ext mlx).ext mlf).ext m9).h X := INN.toQ h9 d9 hXb.big
    replace hlx : RdL encQ 4 (((A.ext mlx).ext mlf).ext m9).h (.slice xa X.length xc) X := RdRow.up hlx
    replace hlf : RdL Box.enc 4 (((A.ext mlx).ext mlf).ext m9).h (.slice pa p.fl.length pc) p.fl := RdRow.up hlf
    have hXb2 : ∀ u ∈ X, u.p.fl.length ≤ 2000000 := fun u hu => by have := (hXb u hu).2.2; omega
    refine CJ.region ?_
    refine LJ.yd rfl (Yd.mvS rfl) ?_
    refine LJ.yd rfl (Yd.loadG (us := [_, _, _, _]) 0 rfl rfl rfl rfl) ?_
    refine LJ.call0 rfl (fun k hk dk => AddPieceI_ok (p := p) (RdRow.up hlx) (Fls.up hx9) (RdRow.up hlf) hXb2 (by omega)) ?_
    rintro _ _ ⟨Y, ya, yc, rfl, rfl, hY⟩
    refine LJ.norm [_, _, _] rfl ?_
    refine LJ.yd rfl (Yd.mvU rfl) ?_
    refine LJ.yd rfl (Yd.extract rfl rfl) ?_
    refine LJ.split rfl (Yd.extract rfl rfl) (fun h25 => ?_) (fun h25 => ?_)
    · refine LJ.yd rfl (Yd.asS rfl) ?_
      refine LJ.yd rfl (Yd.asB rfl) ?_
      refine LJ.nil ?_
      refine CJ.seq ?_
      refine CJ.region ?_
      refine LJ.yd rfl (Yd.mvS rfl) ?_
      refine LJ.yd rfl (Yd.loadG (us := [_, _, _, _]) 0 rfl rfl rfl rfl) ?_
      refine LJ.call0 rfl (fun k hk dk => AddPieceS_ok (p := p) (RdRow.up hlx) (Fls.up hx9) (RdRow.up hlf) hXb2 (by omega) hXb.wf (by unfold I64; omega) (by unfold I64; omega)) ?_
      rintro _ _ ⟨Z, za, zc, rfl, rfl, hZ⟩
      refine LJ.norm [_, _, _, _, _] rfl ?_
      refine LJ.yd rfl (Yd.mvU rfl) ?_
      refine LJ.yd rfl (Yd.extract rfl rfl) ?_
      refine LJ.yd rfl (Yd.extract rfl rfl) ?_
      refine LJ.yd rfl (Yd.asS rfl) ?_
      refine LJ.yd rfl (Yd.asB rfl) ?_
      refine LJ.nil ?_
      refine CJ.seq ?_
      refine CJ.seq ?_
      have hYl := addR_len hY (by omega)
      have hZl := addR_len hZ (by omega)
      have hYb := big_addR hY hXb2 (by omega)
      have hZb := big_addR hZ hXb2 (by omega)
      refine CJ.region ?_
      refine LJ.yd rfl (Yd.mvS rfl) ?_
      refine LJ.yd rfl (Yd.mvS rfl) ?_
      refine LJ.callV rfl (fun k hk dk => equalStock_T (Sts.lr hk dk 1 (by omega) rfl) (Sts.lr hk dk 3 (by omega) rfl) (Sts.fls hk dk 2 (big48 hYb) rfl) (Sts.fls hk dk 4 (big48 hZb) rfl) (hY.trans hZ.symm)) ?_
      refine LJ.yd rfl (Yd.not rfl) ?_
      refine LJ.yd rfl (Yd.mvB rfl) ?_
      refine LJ.gT rfl ?_
      refine LJ.yd rfl (Yd.mvB rfl) ?_
      refine LJ.gT rfl ?_
      refine LJ.yd rfl (Yd.mvB rfl) ?_
      refine LJ.gT rfl ?_
      refine LJ.yd rfl (Yd.cmpNF (Yd.neqB rfl rfl) (by simp [h25])) ?_
      refine LJ.yd rfl (Yd.pickFB rfl rfl) ?_
      refine LJ.yd rfl (Yd.mvB rfl) ?_
      refine LJ.gT rfl ?_
      refine LJ.yd rfl (Yd.mvB rfl) ?_
      refine LJ.gT rfl ?_
      refine LJ.yd rfl (Yd.not rfl) ?_
      refine LJ.yd rfl (Yd.pickFB rfl rfl) ?_
      refine LJ.nil ?_
      refine CJ.condF rfl ?_
      refine CJ.skip ?_
      refine CJ.seq ?_
      have hY2 : psX Y = addL p (psX X) := by rw [hY, addR, if_pos h25]
      obtain ⟨hT1, hT2, hT3⟩ := tak_add h25
      obtain ⟨hs1, hs2, hs3, hs4⟩ := addB_iff.1 h25
      have hs5 : stOk (psX Y) = true := by have := h25; simp only [addB, Bool.and_eq_true] at this; rw [hY2]; exact this.2.2
      have hpa := area_b hs2
      have hsa := sumA_b (stOk_iff.1 hs1).2
      rw [List.length_map] at hsa
      refine CJ.region ?_
      refine LJ.yd rfl (Yd.mvS rfl) ?_
      refine LJ.yd rfl (Yd.fieldAddr rfl) ?_
      refine LJ.yd rfl (Yd.loadC 0 rfl rfl rfl) ?_
      refine LJ.call0 rfl (fun k hk dk => TakePieceI_ok (Sts.lr hk dk 1 (by omega) rfl) (Sts.fls hk dk 2 (big48 hYb) rfl) hYb) ?_
      rintro _ _ ⟨x, R, ta, tc, rfl, rfl, hx, hR⟩
      rw [hY2, hT1]
      rw [hY2, hT2] at hx
      rw [hY2, hT3] at hR
      obtain ⟨xp, xqa, xqc⟩ := x
      dsimp only at hx
      subst hx
      have hRl : R.length = X.length := by have := congrArg List.length hR; simpa using this
      refine LJ.norm [_, _, _, _, _, _, _, _] rfl ?_
      refine LJ.yd rfl (Yd.mvU rfl) ?_
      refine LJ.yd rfl (Yd.extract rfl rfl) ?_
      refine LJ.yd rfl (Yd.extract rfl rfl) ?_
      refine LJ.yd rfl (Yd.extract rfl rfl) ?_
      refine LJ.alloc ([_, _, _, _] : List Value) rfl rfl (fun b2 => ?_)
      refine LJ.store (v := .agg #[_, _, _, _]) (us := [_, _, _, _]) 8 rfl rfl rfl rfl rfl rfl rfl rfl ?_
      refine LJ.yd rfl (Yd.asS rfl) ?_
      refine LJ.yd rfl (Yd.asB rfl) ?_
      refine LJ.nil ?_
      refine CJ.seq ?_
      have hRb : ∀ u ∈ R, u.p.fl.length ≤ 2000000 := fun u hu => by
        have h1 : u.p ∈ psX X := hR ▸ List.mem_map_of_mem hu
        obtain ⟨z, hz, hz2⟩ := List.mem_map.1 h1
        rw [← hz2]; exact hXb2 z hz
      refine CJ.regionD [0, 1, 2, 3, 4, 5, 6, 7, 8] [] (by kernel_rfl) rfl ?_
      refine DJ.norm [_, _, _, _, _, _, _, _, _] [] rfl rfl ?_
      refine DJ.yd 0 rfl (by kernel_rfl) (by kernel_rfl) (by kernel_rfl) rfl rfl (Yd.mvB rfl) ?_
      refine DJ.yd 1 rfl (by kernel_rfl) (by kernel_rfl) (by kernel_rfl) rfl rfl (Yd.mvB rfl) ?_
      refine DJ.yd 2 rfl (by kernel_rfl) (by kernel_rfl) (by kernel_rfl) rfl rfl (Yd.loadG (us := [_, _, _, _]) 8 rfl rfl rfl rfl) ?_
      refine DJ.yd 3 rfl (by kernel_rfl) (by kernel_rfl) (by kernel_rfl) rfl rfl (Yd.loadG (us := [_, _, _, _]) 0 rfl rfl rfl rfl) ?_
      refine DJ.one (i := 4) (by kernel_rfl) ?_
      refine DO.callV rfl rfl rfl (fun k0 hk0 dk0 k hk dk => equalPiece_T (p := xp) (q := xp) rfl ((Sts.lr hk0 dk0 5 (by dsimp only; omega) rfl).up) (RdRow.up hlf)) ?_
      refine DJ.yd 5 rfl (by kernel_rfl) (by kernel_rfl) (by kernel_rfl) rfl rfl (Yd.pickTB rfl rfl) ?_
      refine DJ.yd 6 rfl (by kernel_rfl) (by kernel_rfl) (by kernel_rfl) rfl rfl (Yd.mvB rfl) ?_
      refine DJ.yd 7 rfl (by kernel_rfl) (by kernel_rfl) (by kernel_rfl) rfl rfl (Yd.mvS rfl) ?_
      refine DJ.yd 8 rfl (by kernel_rfl) (by kernel_rfl) (by kernel_rfl) rfl rfl (Yd.mvS rfl) ?_
      refine DJ.one (i := 9) (by kernel_rfl) ?_
      refine DO.callV rfl rfl rfl (fun k0 hk0 dk0 k hk dk => equalStock_T ((Sts.lr hk0 dk0 6 (by omega) rfl).up) (RdRow.up hlx) ((Sts.fls hk0 dk0 7 (big48 hRb) rfl).up) (Fls.up hx9) hR) ?_
      refine DJ.yd 10 rfl (by kernel_rfl) (by kernel_rfl) (by kernel_rfl) rfl rfl (Yd.pickTB rfl rfl) ?_
      refine DJ.yd 11 rfl (by kernel_rfl) (by kernel_rfl) (by kernel_rfl) rfl rfl (Yd.mvB rfl) ?_
      refine DJ.yd 12 rfl (by kernel_rfl) (by kernel_rfl) (by kernel_rfl) rfl rfl (Yd.mvS rfl) ?_
      refine DJ.yd 14 rfl (by kernel_rfl) (by kernel_rfl) (by kernel_rfl) rfl rfl (Yd.mvS rfl) ?_
      refine DJ.yd 16 rfl (by kernel_rfl) (by kernel_rfl) (by kernel_rfl) rfl rfl (Yd.fieldAddr rfl) ?_
      refine DJ.yd 17 rfl (by kernel_rfl) (by kernel_rfl) (by kernel_rfl) rfl rfl (Yd.loadC 0 rfl rfl rfl) ?_
      refine DJ.yd 18 rfl (by kernel_rfl) (by kernel_rfl) (by kernel_rfl) rfl rfl (Yd.fieldAddr rfl) ?_
      refine DJ.yd 19 rfl (by kernel_rfl) (by kernel_rfl) (by kernel_rfl) rfl rfl (Yd.loadC 0 rfl rfl rfl) ?_
      refine DJ.yd 20 rfl (by kernel_rfl) (by kernel_rfl) (by kernel_rfl) rfl rfl (Yd.mul rfl rfl (by dsimp only; unfold I64; omega)) ?_
      refine DJ.one (i := 13) (by kernel_rfl) ?_
      refine DO.callV rfl rfl rfl (fun k0 hk0 dk0 k hk dk => StockArea_k hs5 ((Sts.lr hk0 dk0 1 (by omega) rfl).up) ((Sts.fls hk0 dk0 2 (big48 hYb) rfl).up)) ?_
      refine DJ.one (i := 15) (by kernel_rfl) ?_
      refine DO.callV rfl rfl rfl (fun k0 hk0 dk0 k hk dk => StockArea_k hs1 (RdRow.up hlx) (Fls.up hx9)) ?_
      refine DJ.yd 21 rfl (by kernel_rfl) (by kernel_rfl) (by kernel_rfl) rfl rfl (Yd.add rfl rfl (by dsimp only; unfold I64; omega)) ?_
      refine DJ.yd 22 rfl (by kernel_rfl) (by kernel_rfl) (by kernel_rfl) rfl rfl (Yd.cmpT (Yd.eql rfl rfl) (by dsimp only; rw [hY2, sumA_add])) ?_
      refine DJ.yd 23 rfl (by kernel_rfl) (by kernel_rfl) (by kernel_rfl) rfl rfl (Yd.pickTB rfl rfl) ?_
      refine DJ.yd 24 rfl (by kernel_rfl) (by kernel_rfl) (by kernel_rfl) rfl rfl (Yd.asB rfl) ?_
      refine DJ.done (by kernel_rfl) ?_
      refine CJ.ret ?_
      refine Fin.V (Res.one (ResV.tmp (v := .bool true) rfl)) ?_
      rfl
    · refine LJ.yd rfl (Yd.asS rfl) ?_
      refine LJ.yd rfl (Yd.asB rfl) ?_
      refine LJ.nil ?_
      refine CJ.seq ?_
      refine CJ.region ?_
      refine LJ.yd rfl (Yd.mvS rfl) ?_
      refine LJ.yd rfl (Yd.loadG (us := [_, _, _, _]) 0 rfl rfl rfl rfl) ?_
      refine LJ.call0 rfl (fun k hk dk => AddPieceS_ok (p := p) (RdRow.up hlx) (Fls.up hx9) (RdRow.up hlf) hXb2 (by omega) hXb.wf (by unfold I64; omega) (by unfold I64; omega)) ?_
      rintro _ _ ⟨Z, za, zc, rfl, rfl, hZ⟩
      refine LJ.norm [_, _, _, _, _] rfl ?_
      refine LJ.yd rfl (Yd.mvU rfl) ?_
      refine LJ.yd rfl (Yd.extract rfl rfl) ?_
      refine LJ.yd rfl (Yd.extract rfl rfl) ?_
      refine LJ.yd rfl (Yd.asS rfl) ?_
      refine LJ.yd rfl (Yd.asB rfl) ?_
      refine LJ.nil ?_
      refine CJ.seq ?_
      refine CJ.seq ?_
      have hYl := addR_len hY (by omega)
      have hZl := addR_len hZ (by omega)
      have hYb := big_addR hY hXb2 (by omega)
      have hZb := big_addR hZ hXb2 (by omega)
      refine CJ.region ?_
      refine LJ.yd rfl (Yd.mvS rfl) ?_
      refine LJ.yd rfl (Yd.mvS rfl) ?_
      refine LJ.callV rfl (fun k hk dk => equalStock_T (Sts.lr hk dk 1 (by omega) rfl) (Sts.lr hk dk 3 (by omega) rfl) (Sts.fls hk dk 2 (big48 hYb) rfl) (Sts.fls hk dk 4 (big48 hZb) rfl) (hY.trans hZ.symm)) ?_
      refine LJ.yd rfl (Yd.not rfl) ?_
      refine LJ.yd rfl (Yd.mvB rfl) ?_
      refine LJ.gT rfl ?_
      refine LJ.yd rfl (Yd.mvB rfl) ?_
      refine LJ.gT rfl ?_
      refine LJ.yd rfl (Yd.mvB rfl) ?_
      refine LJ.gT rfl ?_
      refine LJ.yd rfl (Yd.cmpNF (Yd.neqB rfl rfl) (by simp [h25])) ?_
      refine LJ.yd rfl (Yd.pickFB rfl rfl) ?_
      refine LJ.yd rfl (Yd.mvB rfl) ?_
      refine LJ.gT rfl ?_
      refine LJ.yd rfl (Yd.mvB rfl) ?_
      refine LJ.gT rfl ?_
      refine LJ.yd rfl (Yd.not rfl) ?_
      refine LJ.yd rfl (Yd.pickFB rfl rfl) ?_
      refine LJ.nil ?_
      refine CJ.condT rfl ?_
      refine CJ.seq ?_
      refine CJ.region ?_
      refine LJ.yd rfl (Yd.mvS rfl) ?_
      refine LJ.yd rfl (Yd.mvS rfl) ?_
      refine LJ.callV rfl (fun k hk dk => equalStock_T (Sts.lr hk dk 1 (by omega) rfl) (Sts.lr hk dk 3 (by omega) rfl) (Sts.fls hk dk 2 (big48 hYb) rfl) (Sts.fls hk dk 4 (big48 hZb) rfl) (hY.trans hZ.symm)) ?_
      refine LJ.yd rfl (Yd.mvB rfl) ?_
      refine LJ.gT rfl ?_
      refine LJ.yd rfl (Yd.mvB rfl) ?_
      refine LJ.gT rfl ?_
      refine LJ.yd rfl (Yd.mvB rfl) ?_
      refine LJ.gT rfl ?_
      refine LJ.yd rfl (Yd.cmpT (Yd.eqlB rfl rfl) (by simp [h25])) ?_
      refine LJ.yd rfl (Yd.pickTB rfl rfl) ?_
      refine LJ.yd rfl (Yd.asB rfl) ?_
      refine LJ.nil ?_
      refine CJ.ret ?_
      refine Fin.V (Res.one (ResV.tmp (v := .bool true) rfl)) ?_
      rfl
end Go.Proofs.Ytnfnidplhkfamaa
