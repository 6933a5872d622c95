/-
  spec.Binomial (rows of Pascal's triangle) and impl.Binomial (a product): each answers binI n k.
-/
import Derived.Test.YtnljlehbjdambaaIn
import Derived.Test.YtnljlehbjdambaaChoose
namespace Go.Proofs.Ytnljlehbjdambaa
open Go.RowKit

theorem chRow_one (n : Nat) : chRow n 1 = [.int .i64 1] := by simp [chRow, choose_zero]
theorem chRow_full (n : Nat) : chRow (n + 1) (n + 2) = chRow (n + 1) (n + 1) ++ [.int .i64 1] := by rw [chRow_succ (n + 1) (n + 1), choose_self]; rfl

end Go.Proofs.Ytnljlehbjdambaa
