/-
  Bounds of products.
-/
import Derived.Test.YtnljlehbjdambaaBase
namespace Go.Proofs.Ytnljlehbjdambaa

theorem mul_bd {a b A B : Int} (ha : 0 ≤ a) (hA : a ≤ A) (hb : 0 ≤ b) (hB : b ≤ B) : 0 ≤ a * b ∧ a * b ≤ A * B :=
  ⟨Int.mul_nonneg ha hb, Int.le_trans (Int.mul_le_mul_of_nonneg_right hA hb) (Int.mul_le_mul_of_nonneg_left hB (by omega))⟩
theorem sq_bd {d A : Int} (h1 : -A ≤ d) (h2 : d ≤ A) : 0 ≤ d * d ∧ d * d ≤ A * A := by
  rcases Int.le_total 0 d with h | h
  · exact mul_bd h h2 h h2
  · have := mul_bd (a := -d) (b := -d) (A := A) (B := A) (by omega) (by omega) (by omega) (by omega)
    rwa [Int.neg_mul_neg] at this

end Go.Proofs.Ytnljlehbjdambaa
