/-
  The reader of numbers: its contracts.
-/
import Derived.Test.YtfnnhekbgjofoaaP2
import Derived.Test.YtfnnhekbgjofoaaRD
namespace Go.Proofs.Ytfnnhekbgjofoaa
open Go
set_option maxRecDepth 20000
set_option maxHeartbeats 2000000

theorem Sts.row {A : Amb} {fr : List HProp} {k : Hp} {E : TypeId} {q c : Nat} {a : Option Addr} {css : List (List Value)} (hk : Sts fr k) (dk : A.h.Dj k) (i : Nat) (hb : css.length ≤ 281474976710656) (hi : fr[i]? = some (Row E q a c css)) : RdRow (A.ext k).h q (.slice a css.length c) css := by
  obtain ⟨m, hm, lm⟩ := hk.get hi
  exact (hm.rd hb).mono (lm.trans (Amb.ext_own dk))
end Go.Proofs.Ytfnnhekbgjofoaa
