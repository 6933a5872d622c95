/-
  impl.ascending: whether each number is greater than the one before.
-/
import Derived.Test.YtnljlehbjdambaaBase
namespace Go.Proofs.Ytnljlehbjdambaa
open Go.RowKit
set_option linter.unusedSimpArgs false

def ascB (xs : List Int) : Bool := (List.range (xs.length - 1)).all fun i => decide (xs.getD i 0 < xs.getD (i + 1) 0)
theorem ascB_iff (xs : List Int) : ascB xs = true ↔ ∀ i, i + 1 < xs.length → xs.getD i 0 < xs.getD (i + 1) 0 := by
  unfold ascB
  rw [List.all_eq_true]
  constructor
  · intro h i hi
    simpa using h i (List.mem_range.2 (by omega))
  · intro h i hi
    have := List.mem_range.1 hi
    simpa using h i (by omega)
theorem ascB_no {xs : List Int} {i : Nat} (hi : i + 1 < xs.length) (h : ¬ xs.getD i 0 < xs.getD (i + 1) 0) : ascB xs = false := by
  cases hc : ascB xs
  · rfl
  · exact absurd ((ascB_iff xs).1 hc i hi) h

theorem getCell {xs : List Int} {k : Nat} (hk : k < xs.length) : (xs.map (Value.int .i64))[k]? = some (.int .i64 (xs.getD k 0)) := by simp [List.getD, hk]

end Go.Proofs.Ytnljlehbjdambaa
