/-
  Plans, drawn: contracts.
-/
import Derived.Test.YtlpjienaennmaaaG4
namespace Go.Proofs.Ytlpjienaennmaaa
open Go
set_option maxRecDepth 20000
set_option maxHeartbeats 4000000

/-- any plan, owned -/
def AnyR (v : Value) (fs : List HProp) : Prop := ∃ (o e i : Int) (t : Bool) (x : Option Addr) (m l : Nat) (pl : Plan), v = .agg #[vI o, vI e, vI i, .bool t, .slice x m l] ∧ fs = [fun h => RdPlan h [vI o, vI e, vI i, .bool t, .slice x m l] pl]
end Go.Proofs.Ytlpjienaennmaaa
