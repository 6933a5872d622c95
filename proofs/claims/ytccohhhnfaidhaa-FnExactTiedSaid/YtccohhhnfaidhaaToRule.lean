/-
  laws.toRule: a rule copied field by field.
-/
import Derived.Test.YtccohhhnfaidhaaRule
namespace Go.Proofs.Ytccohhhnfaidhaa
open Go.RowKit

set_option maxHeartbeats 400000 in
theorem toRule_any (s t g d n u : Int) (two : Bool) (w : World) : Calls Try.prog 15 #[ruleV s t g d n u two] w fun e w' => e = .returned (ruleV s t g d n u two) ∧ Below w.heap.size w w' := by
  go_enter Try.func15, Try.ntmps15
  go_wp2
  go_returns
  exact ⟨rfl, by go_grown⟩

end Go.Proofs.Ytccohhhnfaidhaa
