/-
  The given reader of texts: its steps.
-/
import Derived.Test.YtlpjienaennmaaaPS4
namespace Go.Proofs.Ytlpjienaennmaaa
open Go
set_option maxRecDepth 20000
set_option maxHeartbeats 1000000

def rdS (ds : List UInt8) : Int := if numOk ds = true then (vA 0 ds : Nat) else -1
theorem rdS_T {ds : List UInt8} (h : numOk ds = true) : rdS ds = (vA 0 ds : Nat) := if_pos h
theorem rdS_F {ds : List UInt8} (h : numOk ds = false) : rdS ds = -1 := if_neg (by rw [h]; simp)
theorem rdS_neg {ds : List UInt8} (h : ¬ rdS ds < 0) : numOk ds = true := by
  cases e : numOk ds with
  | true => rfl
  | false => rw [rdS_F e] at h; omega
theorem rdS_b (ds : List UInt8) : -1 ≤ rdS ds ∧ rdS ds ≤ 999999 := by
  cases e : numOk ds with
  | true => rw [rdS_T e]; have := val_lt e; omega
  | false => rw [rdS_F e]; omega
theorem readNumberS_ok {A : Amb} {bs : List UInt8} (hb : bs.length ≤ 100000) : Ctr Try.prog 118 #[vT bs] A [] (Val (vI (rdS bs))) := by
  refine Ctr.body (args := [_]) Try.func118 rfl Try.ntmps118 Try.results118 (by simp) ?_
  refine CJ.seq ?_
  refine CJ.region ?_
  refine LJ.yd rfl (Yd.asI rfl) ?_
  refine LJ.nil ?_
  refine CJ.seq ?_
  refine CJ.region ?_
  refine LJ.yd rfl (Yd.asI rfl) ?_
  refine LJ.nil ?_
  refine CJ.seq ?_
  refine CJ.seq ?_
  refine CJ.region ?_
  refine LJ.yd rfl (Yd.asI rfl) ?_
  refine LJ.nil ?_
  refine CJ.block ?_
  refine CJ.loopK [0] (Nat × Int) (fun ⟨k, y⟩ => k ≤ bs.length ∧ y = (vA 0 (bs.take k) : Nat) ∧ (bs.take k).all isD = true ∧ y ≤ 999999) (fun ⟨k, y⟩ => [(4, vI k), (3, vI y)]) (fun ⟨k, y⟩ => bs.length - k) (0, 0) ?_ ⟨rfl, rfl, trivial⟩ ?_
  · exact ⟨by omega, rfl, rfl, by omega⟩
  · rintro ⟨k, y⟩ σ ⟨hk1, hy, hyD, hyb⟩
    refine CJ.seq ?_
    refine CJ.seq ?_
    refine CJ.region ?_
    refine LJ.yd rfl (Yd.mvI rfl) ?_
    refine LJ.yd rfl (Yd.mvT rfl) ?_
    refine LJ.yd rfl (Yd.lenT rfl) ?_
    refine LJ.splitD rfl (Yd.lss rfl rfl) (fun h8 => ?_) (fun h8 => ?_)
    · refine LJ.nil ?_
      refine CJ.condT rfl ?_
      refine CJ.skip ?_
      refine CJ.seq ?_
      refine CJ.block ?_
      refine CJ.seq ?_
      refine CJ.seq ?_
      refine CJ.region ?_
      refine LJ.yd rfl (Yd.mvT rfl) ?_
      refine LJ.yd rfl (Yd.mvI rfl) ?_
      refine LJ.ixT rfl rfl rfl (by omega) (by omega) (fun u13 hu13 => ?_)
      try simp only [Int.toNat_natCast] at hu13
      obtain ⟨ul13, uh13⟩ := u8_b u13
      refine LJ.splitD rfl (Yd.lss rfl rfl) (fun h14 => ?_) (fun h14 => ?_)
      · refine LJ.yd rfl (Yd.mvB rfl) ?_
        refine LJ.gF rfl rfl ?_
        refine LJ.gF rfl rfl ?_
        refine LJ.gF rfl rfl ?_
        refine LJ.gF rfl rfl ?_
        refine LJ.yd rfl (Yd.pickTB rfl rfl) ?_
        refine LJ.nil ?_
        refine CJ.condT rfl ?_
        refine CJ.seq ?_
        refine CJ.region ?_
        refine LJ.yd rfl (Yd.asI rfl) ?_
        refine LJ.nil ?_
        refine CJ.ret ?_
        refine Fin.V (Res.one (ResV.tmp (v := .int _ _) rfl)) ?_
        first
          | (rw [rdS_F (numF0 (by assumption))]; done)
          | (rw [rdS_F (numF3 hu13 (by omega))]; done)
          | (rw [rdS_F (numF3 hu18 (by omega))]; done)
          | (rw [rdS_F (numOk_big (k := k + 1) (by rw [vA_take hu13]; omega))]; done)
          | (rw [rdS_F (Bool.eq_false_iff.2 fun hn => h37 ((numOk_show hyD (by omega)).1 hn).2)]; done)
          | (rw [rdS_T ((numOk_show hyD (by omega)).2 ⟨h32, h37⟩)]; done)
      · refine LJ.yd rfl (Yd.mvB rfl) ?_
        refine LJ.gT rfl ?_
        refine LJ.yd rfl (Yd.mvT rfl) ?_
        refine LJ.gT rfl ?_
        refine LJ.yd rfl (Yd.mvI rfl) ?_
        refine LJ.gT rfl ?_
        refine LJ.ixT rfl rfl rfl (by omega) (by omega) (fun u18 hu18 => ?_)
        try simp only [Int.toNat_natCast] at hu18
        obtain ⟨ul18, uh18⟩ := u8_b u18
        refine LJ.gT rfl ?_
        refine LJ.splitD rfl (Yd.gtr rfl rfl) (fun h19 => ?_) (fun h19 => ?_)
        · refine LJ.yd rfl (Yd.pickFB rfl rfl) ?_
          refine LJ.nil ?_
          refine CJ.condT rfl ?_
          refine CJ.seq ?_
          refine CJ.region ?_
          refine LJ.yd rfl (Yd.asI rfl) ?_
          refine LJ.nil ?_
          refine CJ.ret ?_
          refine Fin.V (Res.one (ResV.tmp (v := .int _ _) rfl)) ?_
          first
            | (rw [rdS_F (numF0 (by assumption))]; done)
            | (rw [rdS_F (numF3 hu13 (by omega))]; done)
            | (rw [rdS_F (numF3 hu18 (by omega))]; done)
            | (rw [rdS_F (numOk_big (k := k + 1) (by rw [vA_take hu13]; omega))]; done)
            | (rw [rdS_F (Bool.eq_false_iff.2 fun hn => h37 ((numOk_show hyD (by omega)).1 hn).2)]; done)
            | (rw [rdS_T ((numOk_show hyD (by omega)).2 ⟨h32, h37⟩)]; done)
        · refine LJ.yd rfl (Yd.pickFB rfl rfl) ?_
          refine LJ.nil ?_
          refine CJ.condF rfl ?_
          refine CJ.skip ?_
          refine CJ.seq ?_
          have hD13 : 48 ≤ (u13.toNat : Int) ∧ (u13.toNat : Int) ≤ 57 := ⟨by omega, by first | omega | (rw [hu13] at hu18; obtain rfl := Option.some.inj hu18; omega)⟩
          refine CJ.region ?_
          refine LJ.yd rfl (Yd.mvI rfl) ?_
          refine LJ.yd rfl (Yd.mul rfl rfl (by unfold I64; omega)) ?_
          refine LJ.yd rfl (Yd.mvT rfl) ?_
          refine LJ.yd rfl (Yd.mvI rfl) ?_
          refine LJ.ixT rfl rfl rfl (by omega) (by omega) (fun u25 hu25 => ?_)
          try simp only [Int.toNat_natCast] at hu25
          obtain ⟨ul25, uh25⟩ := u8_b u25
          have hu25b : u13 = u25 := by rw [hu13] at hu25; exact Option.some.inj hu25
          subst hu25b
          refine LJ.yd rfl (Yd.sub8 rfl rfl (by omega) (by omega)) ?_
          refine LJ.yd rfl (Yd.convert8 rfl (by omega) (by omega)) ?_
          refine LJ.yd rfl (Yd.add rfl rfl (by unfold I64; omega)) ?_
          refine LJ.yd rfl (Yd.asI rfl) ?_
          refine LJ.nil ?_
          refine CJ.seq ?_
          refine CJ.region ?_
          refine LJ.yd rfl (Yd.mvI rfl) ?_
          refine LJ.splitD rfl (Yd.gtr rfl rfl) (fun h30 => ?_) (fun h30 => ?_)
          · refine LJ.nil ?_
            refine CJ.condT rfl ?_
            refine CJ.seq ?_
            refine CJ.region ?_
            refine LJ.yd rfl (Yd.asI rfl) ?_
            refine LJ.nil ?_
            refine CJ.ret ?_
            refine Fin.V (Res.one (ResV.tmp (v := .int _ _) rfl)) ?_
            first
              | (rw [rdS_F (numF0 (by assumption))]; done)
              | (rw [rdS_F (numF3 hu13 (by omega))]; done)
              | (rw [rdS_F (numF3 hu18 (by omega))]; done)
              | (rw [rdS_F (numOk_big (k := k + 1) (by rw [vA_take hu13]; omega))]; done)
              | (rw [rdS_F (Bool.eq_false_iff.2 fun hn => h37 ((numOk_show hyD (by omega)).1 hn).2)]; done)
              | (rw [rdS_T ((numOk_show hyD (by omega)).2 ⟨h32, h37⟩)]; done)
          · refine LJ.nil ?_
            refine CJ.condF rfl ?_
            refine CJ.skip ?_
            refine CJ.region ?_
            refine LJ.yd rfl (Yd.mvI rfl) ?_
            refine LJ.yd rfl (Yd.add rfl rfl (by unfold I64; omega)) ?_
            refine LJ.yd rfl (Yd.asI rfl) ?_
            refine LJ.nil ?_
            refine ⟨(k + 1, _), ?_, ⟨rfl, trivial⟩, ⟨rfl, rfl, trivial⟩, Ent.refl _, ?_⟩
            · refine ⟨by omega, ?_⟩
              have e := vA_take hu13
              exact ⟨by rw [e, hy]; omega, all_take hyD hu13 (by omega) (by omega), by omega⟩
            · first | omega | (dsimp only; omega) | (simp only []; omega)
    · refine LJ.nil ?_
      refine CJ.condF rfl ?_
      refine CJ.exit ?_
      refine CJ.seq ?_
      refine CJ.seq ?_
      obtain rfl : k = bs.length := by omega
      rw [List.take_of_length_le (Nat.le_refl _)] at hy hyD
      subst hy
      refine CJ.region ?_
      refine LJ.yd rfl (Yd.mvT rfl) ?_
      refine LJ.splitD rfl (Yd.eqlT rfl rfl) (fun h32 => ?_) (fun h32 => ?_)
      · refine LJ.yd rfl (Yd.mvB rfl) ?_
        refine LJ.gF rfl rfl ?_
        refine LJ.gF rfl rfl ?_
        refine LJ.gF rfl rfl ?_
        refine LJ.gF rfl rfl ?_
        refine LJ.yd rfl (Yd.pickTB rfl rfl) ?_
        refine LJ.nil ?_
        refine CJ.condT rfl ?_
        refine CJ.seq ?_
        refine CJ.region ?_
        refine LJ.yd rfl (Yd.asI rfl) ?_
        refine LJ.nil ?_
        refine CJ.ret ?_
        refine Fin.V (Res.one (ResV.tmp (v := .int _ _) rfl)) ?_
        first
          | (rw [rdS_F (numF0 (by assumption))]; done)
          | (rw [rdS_F (numF3 hu13 (by omega))]; done)
          | (rw [rdS_F (numF3 hu18 (by omega))]; done)
          | (rw [rdS_F (numOk_big (k := k + 1) (by rw [vA_take hu13]; omega))]; done)
          | (rw [rdS_F (Bool.eq_false_iff.2 fun hn => h37 ((numOk_show hyD (by omega)).1 hn).2)]; done)
          | (rw [rdS_T ((numOk_show hyD (by omega)).2 ⟨h32, h37⟩)]; done)
      · refine LJ.yd rfl (Yd.mvB rfl) ?_
        refine LJ.gT rfl ?_
        refine LJ.yd rfl (Yd.mvT rfl) ?_
        refine LJ.gT rfl ?_
        refine LJ.yd rfl (Yd.mvI rfl) ?_
        refine LJ.gT rfl ?_
        refine LJ.callV rfl (fun k hk dk => number_ok _ _ (vA 0 bs) (Nat.lt_succ_self _) (by omega)) ?_
        refine LJ.gT rfl ?_
        refine LJ.splitN rfl (Yd.neqT rfl rfl) (fun h37 => ?_) (fun h37 => ?_)
        · refine LJ.yd rfl (Yd.pickFB rfl rfl) ?_
          refine LJ.nil ?_
          refine CJ.condT rfl ?_
          refine CJ.seq ?_
          refine CJ.region ?_
          refine LJ.yd rfl (Yd.asI rfl) ?_
          refine LJ.nil ?_
          refine CJ.ret ?_
          refine Fin.V (Res.one (ResV.tmp (v := .int _ _) rfl)) ?_
          first
            | (rw [rdS_F (numF0 (by assumption))]; done)
            | (rw [rdS_F (numF3 hu13 (by omega))]; done)
            | (rw [rdS_F (numF3 hu18 (by omega))]; done)
            | (rw [rdS_F (numOk_big (k := k + 1) (by rw [vA_take hu13]; omega))]; done)
            | (rw [rdS_F (Bool.eq_false_iff.2 fun hn => h37 ((numOk_show hyD (by omega)).1 hn).2)]; done)
            | (rw [rdS_T ((numOk_show hyD (by omega)).2 ⟨h32, h37⟩)]; done)
        · refine LJ.yd rfl (Yd.pickFB rfl rfl) ?_
          refine LJ.nil ?_
          refine CJ.condF rfl ?_
          refine CJ.skip ?_
          refine CJ.seq ?_
          refine CJ.region ?_
          refine LJ.yd rfl (Yd.mvI rfl) ?_
          refine LJ.yd rfl (Yd.asI rfl) ?_
          refine LJ.nil ?_
          refine CJ.ret ?_
          refine Fin.V (Res.one (ResV.tmp (v := .int _ _) rfl)) ?_
          first
            | (rw [rdS_F (numF0 (by assumption))]; done)
            | (rw [rdS_F (numF3 hu13 (by omega))]; done)
            | (rw [rdS_F (numF3 hu18 (by omega))]; done)
            | (rw [rdS_F (numOk_big (k := k + 1) (by rw [vA_take hu13]; omega))]; done)
            | (rw [rdS_F (Bool.eq_false_iff.2 fun hn => h37 ((numOk_show hyD (by omega)).1 hn).2)]; done)
            | (rw [rdS_T ((numOk_show hyD (by omega)).2 ⟨h32, h37⟩)]; done)
/-- the byte at a place of a text, 0 behind its end -/
def nx (tx : List UInt8) (p : Nat) : UInt8 := (tx[p]?).getD 0
theorem nx_at {tx : List UInt8} {p : Nat} {u : UInt8} (h : tx[p]? = some u) : nx tx p = u := by rw [nx, h]; rfl
theorem nx_end {tx : List UInt8} {p : Nat} (h : tx.length ≤ p) : nx tx p = 0 := by rw [nx, List.getElem?_eq_none h]; rfl
theorem next_ok {A : Amb} {tb : Nat} {tx : List UInt8} {p : Int} {bad : Bool} (hl : tx.length ≤ 1000000) (h0 : 0 ≤ p) (h1 : p ≤ 10000000) : Ctr Try.prog 111 #[.pointer (some ⟨tb, 0, none⟩)] A [Cel tb 129 [vT tx, vI p, .bool bad]]
    (fun v gs => v = v8 (nx tx p.toNat) ∧ gs = [Cel tb 129 [vT tx, vI p, .bool bad]]) := by
  refine Ctr.body (args := [_]) Try.func111 rfl Try.ntmps111 Try.results111 (by simp) ?_
  refine CJ.seq ?_
  refine CJ.region ?_
  refine LJ.yd rfl (Yd.asI rfl) ?_
  refine LJ.nil ?_
  refine CJ.seq ?_
  refine CJ.seq ?_
  refine CJ.regionD [0] [] (by kernel_rfl) rfl ?_
  refine DJ.norm [_] [] rfl rfl ?_
  refine DJ.yd 0 rfl (by kernel_rfl) (by kernel_rfl) (by kernel_rfl) rfl rfl (Yd.mvP rfl) ?_
  refine DJ.yd 1 rfl (by kernel_rfl) (by kernel_rfl) (by kernel_rfl) rfl rfl (Yd.nilCheck rfl) ?_
  refine DJ.yd 2 rfl (by kernel_rfl) (by kernel_rfl) (by kernel_rfl) rfl rfl (Yd.fieldAddr rfl) ?_
  refine DJ.yd 3 rfl (by kernel_rfl) (by kernel_rfl) (by kernel_rfl) rfl rfl (Yd.loadC 0 rfl rfl rfl) ?_
  refine DJ.yd 4 rfl (by kernel_rfl) (by kernel_rfl) (by kernel_rfl) rfl rfl (Yd.mvP rfl) ?_
  refine DJ.yd 5 rfl (by kernel_rfl) (by kernel_rfl) (by kernel_rfl) rfl rfl (Yd.nilCheck rfl) ?_
  refine DJ.yd 6 rfl (by kernel_rfl) (by kernel_rfl) (by kernel_rfl) rfl rfl (Yd.fieldAddr rfl) ?_
  refine DJ.yd 7 rfl (by kernel_rfl) (by kernel_rfl) (by kernel_rfl) rfl rfl (Yd.loadC 0 rfl rfl rfl) ?_
  refine DJ.yd 8 rfl (by kernel_rfl) (by kernel_rfl) (by kernel_rfl) rfl rfl (Yd.lenT rfl) ?_
  refine DJ.splitD 9 rfl (by kernel_rfl) (by kernel_rfl) (by kernel_rfl) rfl rfl (Yd.geq rfl rfl) (fun h12 => ?_) (fun h12 => ?_)
  · refine DJ.done (by kernel_rfl) ?_
    refine CJ.condT rfl ?_
    refine CJ.seq ?_
    refine CJ.region ?_
    refine LJ.yd rfl (Yd.asI rfl) ?_
    refine LJ.nil ?_
    refine CJ.ret ?_
    exact Fin.R [_] (Res.one (ResV.tmp (v := .int _ _) rfl)) ⟨by first | (rw [nx_end (by omega)]; rfl) | (rw [nx_at hu21]), rfl⟩ (Ent.pick [0] [] rfl)
  · refine DJ.done (by kernel_rfl) ?_
    refine CJ.condF rfl ?_
    refine CJ.skip ?_
    refine CJ.seq ?_
    refine CJ.regionD [0] [] (by kernel_rfl) rfl ?_
    refine DJ.norm [_] [] rfl rfl ?_
    refine DJ.yd 0 rfl (by kernel_rfl) (by kernel_rfl) (by kernel_rfl) rfl rfl (Yd.mvP rfl) ?_
    refine DJ.yd 1 rfl (by kernel_rfl) (by kernel_rfl) (by kernel_rfl) rfl rfl (Yd.nilCheck rfl) ?_
    refine DJ.yd 2 rfl (by kernel_rfl) (by kernel_rfl) (by kernel_rfl) rfl rfl (Yd.fieldAddr rfl) ?_
    refine DJ.yd 3 rfl (by kernel_rfl) (by kernel_rfl) (by kernel_rfl) rfl rfl (Yd.loadC 0 rfl rfl rfl) ?_
    refine DJ.yd 4 rfl (by kernel_rfl) (by kernel_rfl) (by kernel_rfl) rfl rfl (Yd.mvP rfl) ?_
    refine DJ.yd 5 rfl (by kernel_rfl) (by kernel_rfl) (by kernel_rfl) rfl rfl (Yd.nilCheck rfl) ?_
    refine DJ.yd 6 rfl (by kernel_rfl) (by kernel_rfl) (by kernel_rfl) rfl rfl (Yd.fieldAddr rfl) ?_
    refine DJ.yd 7 rfl (by kernel_rfl) (by kernel_rfl) (by kernel_rfl) rfl rfl (Yd.loadC 0 rfl rfl rfl) ?_
    refine DJ.ixT (i := 8) rfl (by kernel_rfl) (by kernel_rfl) (by kernel_rfl) rfl rfl rfl rfl (by omega) (by omega) (fun u21 hu21 => ?_)
    try simp only [Int.toNat_natCast] at hu21
    obtain ⟨ul21, uh21⟩ := u8_b u21
    refine DJ.yd 9 rfl (by kernel_rfl) (by kernel_rfl) (by kernel_rfl) rfl rfl (Yd.asI rfl) ?_
    refine DJ.done (by kernel_rfl) ?_
    refine CJ.ret ?_
    exact Fin.R [_] (Res.one (ResV.tmp (v := .int _ _) rfl)) ⟨by first | (rw [nx_end (by omega)]; rfl) | (rw [nx_at hu21]), rfl⟩ (Ent.pick [0] [] rfl)
theorem skip_ok {A : Amb} {tb : Nat} {tx : List UInt8} {p c : Int} {bad : Bool} (hl : tx.length ≤ 1000000) (h0 : 0 ≤ p) (h1 : p ≤ 1000000) : Ctr Try.prog 113 #[.pointer (some ⟨tb, 0, none⟩), .int .u8 c] A [Cel tb 129 [vT tx, vI p, .bool bad]]
    (fun v gs => ∃ bad' : Bool, v = .tuple #[] ∧ gs = [Cel tb 129 [vT tx, vI (p + 1), .bool bad']] ∧ (bad' = false ↔ bad = false ∧ ((nx tx p.toNat).toNat : Int) = c)) := by
  refine Ctr.body (args := [_, _]) Try.func113 rfl Try.ntmps113 Try.results113 (by simp) ?_
  refine CJ.seq ?_
  refine CJ.region ?_
  refine LJ.yd rfl (Yd.mvP rfl) ?_
  refine LJ.yd rfl (Yd.mvP rfl) ?_
  refine LJ.yd rfl (Yd.nilCheck rfl) ?_
  refine LJ.yd rfl (Yd.fieldAddr rfl) ?_
  refine LJ.split rfl (Yd.loadC 0 rfl rfl rfl) (fun h8 => ?_) (fun h8 => ?_)
  · refine LJ.yd rfl (Yd.mvB rfl) ?_
    refine LJ.gF rfl rfl ?_
    refine LJ.gF rfl rfl ?_
    refine LJ.gF rfl rfl ?_
    refine LJ.gF rfl rfl ?_
    refine LJ.yd rfl (Yd.pickTB rfl rfl) ?_
    refine LJ.yd rfl (Yd.nilCheck rfl) ?_
    refine LJ.yd rfl (Yd.fieldAddr rfl) ?_
    refine LJ.store (v := .bool true) (us := [_, _, _]) 0 rfl rfl rfl rfl rfl rfl rfl rfl ?_
    refine LJ.nil ?_
    refine CJ.region ?_
    refine LJ.yd rfl (Yd.mvP rfl) ?_
    refine LJ.yd rfl (Yd.mvP rfl) ?_
    refine LJ.yd rfl (Yd.nilCheck rfl) ?_
    refine LJ.yd rfl (Yd.fieldAddr rfl) ?_
    refine LJ.yd rfl (Yd.loadC 0 rfl rfl rfl) ?_
    refine LJ.yd rfl (Yd.add rfl rfl (by unfold I64; omega)) ?_
    refine LJ.yd rfl (Yd.nilCheck rfl) ?_
    refine LJ.yd rfl (Yd.fieldAddr rfl) ?_
    refine LJ.store (v := .int _ _) (us := [_, _, _]) 0 rfl rfl rfl rfl rfl rfl rfl rfl ?_
    refine LJ.nil ?_
    refine Fin.ofRet ?_
    exact Fin.R [_] Res.none ⟨_, rfl, rfl, by simp [*]⟩ (Ent.pick [0] [] rfl)
  · refine LJ.yd rfl (Yd.mvB rfl) ?_
    refine LJ.gT rfl ?_
    refine LJ.yd rfl (Yd.mvP rfl) ?_
    refine LJ.gT rfl ?_
    refine LJ.call (pickF _ []) (pickF _ [0]) rfl (perm_pickF _ [] [0] rfl) (fun k hk dk => next_ok hl h0 (by omega)) ?_
    rintro _ _ ⟨rfl, rfl⟩
    refine LJ.norm [_] rfl ?_
    refine LJ.gT rfl ?_
    refine LJ.yd rfl (Yd.mvI rfl) ?_
    refine LJ.gT rfl ?_
    refine LJ.yd rfl (Yd.neq rfl rfl) ?_
    refine LJ.yd rfl (Yd.pickFB rfl rfl) ?_
    refine LJ.yd rfl (Yd.nilCheck rfl) ?_
    refine LJ.yd rfl (Yd.fieldAddr rfl) ?_
    refine LJ.store (v := .bool _) (us := [_, _, _]) 0 rfl rfl rfl rfl rfl rfl rfl rfl ?_
    refine LJ.nil ?_
    refine CJ.region ?_
    refine LJ.yd rfl (Yd.mvP rfl) ?_
    refine LJ.yd rfl (Yd.mvP rfl) ?_
    refine LJ.yd rfl (Yd.nilCheck rfl) ?_
    refine LJ.yd rfl (Yd.fieldAddr rfl) ?_
    refine LJ.yd rfl (Yd.loadC 0 rfl rfl rfl) ?_
    refine LJ.yd rfl (Yd.add rfl rfl (by unfold I64; omega)) ?_
    refine LJ.yd rfl (Yd.nilCheck rfl) ?_
    refine LJ.yd rfl (Yd.fieldAddr rfl) ?_
    refine LJ.store (v := .int _ _) (us := [_, _, _]) 0 rfl rfl rfl rfl rfl rfl rfl rfl ?_
    refine LJ.nil ?_
    refine Fin.ofRet ?_
    exact Fin.R [_] Res.none ⟨_, rfl, rfl, by simp [*]⟩ (Ent.pick [0] [] rfl)
end Go.Proofs.Ytlpjienaennmaaa
